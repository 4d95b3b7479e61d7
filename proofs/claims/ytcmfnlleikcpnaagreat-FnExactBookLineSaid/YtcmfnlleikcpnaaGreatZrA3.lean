/- What a call is handed, read as values of the model: whatever the data, there is a value of the model in the cells. -/
import Derived.Test.YtcmfnlleikcpnaaGreatZrA2
import Derived.ProofKit
import Derived.SizedLaws
import Derived.Test.YtcmfnlleikcpnaaGreatZrA1
set_option linter.unusedSimpArgs false
set_option linter.unusedVariables false
namespace Go.Proofs.YtcmfnlleikcpnaaGreat
open Go.RowKit Go.ChangeShapes Go.WideShapes Go.ChangeAt
theorem cell_of {w : World} {b o : Nat} {x : Value} (h : w.cell? ⟨b, o, none⟩ = some x) : Cell w b o x := by
  unfold World.cell? at h
  split at h
  · rename_i c t f hb
    exact ⟨c, t, f, hb, by simpa using h⟩
  all_goals simp at h
section
variable {H : Type} {enc : TypeId × Value → H} {w : World} {spare : Nat → Bool} {held : Bool} {fuel : Nat} {x : DataW H × List MemPlace} {cs : List Value}
theorem rd_cat {Ts Us : List Ty} (a s : Nat) (h1 : cellsOk w Ts ((cs.drop a).take s)) (h2 : cellsOk w Us (cs.drop (a + s))) : cellsOk w (Ts ++ Us) (cs.drop a) := by
  have := h1.append h2
  rwa [← List.drop_drop, List.take_append_drop] at this
theorem rd_end {n : Nat} (h : cs.length = n) : cellsOk w [] (cs.drop n) := by rw [List.drop_eq_nil_of_le (by omega)]; trivial
theorem rd_int {P : Program} {t : TypeId} (ht : P.underlying t = some (.int .i64)) (h : DataW.trod enc P w 0 spare held fuel t cs = some x) : ∃ n : Int, cellsOk w [Ty.int n] cs := by
  obtain ⟨n, rfl, _, _⟩ := DataW.trod_int ht h
  exact ⟨n, rfl, trivial⟩
theorem rd_bool {P : Program} {t : TypeId} (ht : P.underlying t = some .bool) (h : DataW.trod enc P w 0 spare held fuel t cs = some x) : ∃ b : Bool, cellsOk w [Ty.bool b] cs := by
  obtain ⟨b, rfl, _⟩ := DataW.trod_bool ht h
  exact ⟨b, rfl, trivial⟩
theorem rd_ints {P : Program} {t e : TypeId} (ht : P.underlying t = some (.slice e)) (he : P.underlying e = some (.int .i64)) (hc : P.cellsOf e = 1) (h : DataW.trod enc P w 0 spare held fuel t cs = some x) : ∃ xs : List Int, cellsOk w [Ty.ints e xs] cs := by
  rcases open_ints ht he hc h with ⟨rfl, _⟩ | ⟨a, len, cap, zs, rfl, _, hl, hm, hz, _, hcell, _⟩
  · exact ⟨[], nil_ok, trivial⟩
  · have hlz : len ≤ zs.length := by rw [hz]; split <;> omega
    have hlen : (zs.take len).length = len := by simp; omega
    refine ⟨zs.take len, ⟨by simp, some a, cap, ints_ (zs.take len), by rw [hlen], by rw [hlen]; exact hl, hm, (ints_own w _).ok, fun hp => ?_⟩, trivial⟩
    have hp : 0 < len := by rw [List.length_map, hlen] at hp; exact hp
    obtain ⟨b, off, spot⟩ := a
    have hspot : spot = none := by simpa [Addr.add] using World.cell?_spot (hcell 0 (by omega))
    subst hspot
    refine ⟨b, off, rfl, fun j v hj => ?_⟩
    simp only [ints_, List.getElem?_map, Option.map_eq_some_iff] at hj
    obtain ⟨n, hn, rfl⟩ := hj
    rw [List.getElem?_take] at hn
    split at hn
    · rename_i hjl
      have := hcell j (by omega)
      rw [addr_add] at this
      have e : zs.getD j 0 = n := by simp [List.getD, hn]
      rw [e] at this
      exact cell_of this
    · simp at hn
end
end Go.Proofs.YtcmfnlleikcpnaaGreat

namespace Go.Proofs.YtcmfnlleikcpnaaGreat
open Go.RowKit Go.ChangeShapes Go.WideShapes Go.ChangeAt
section
variable {H : Type} {enc : TypeId × Value → H} {w : World} {spare : Nat → Bool} {held : Bool} {fuel : Nat} {x : DataW H × List MemPlace} {cs : List Value}
end
end Go.Proofs.YtcmfnlleikcpnaaGreat

namespace Go.Proofs.YtcmfnlleikcpnaaGreat
open Go.RowKit Go.ChangeShapes Go.WideShapes Go.ChangeAt
section
variable {H : Type} {enc : TypeId × Value → H} {w : World} {spare : Nat → Bool} {held : Bool} {fuel : Nat} {x : DataW H × List MemPlace} {cs : List Value}
theorem RowAt.app {b o : Nat} {vs us : List Value} (h : RowAt w b o vs) (k : RowAt w b (o + vs.length) us) : RowAt w b o (vs ++ us) := fun j v hj => by
  rw [List.getElem?_append] at hj
  split at hj
  · exact h j v hj
  · rename_i hlt
    have := k (j - vs.length) v hj
    rwa [show o + vs.length + (j - vs.length) = o + j by omega] at this
theorem rd_sl {P : Program} {t e e' : TypeId} {α : Type} (F : α → List Ty) {sz : Nat} (ht : P.underlying t = some (.slice e)) (hc : P.cellsOf e = sz) (hsz : 0 < sz) (hF : ∀ x, (F x).length = sz)
    (rd : ∀ {fuel : Nat} {cs : List Value} {x : DataW H × List MemPlace}, DataW.trod enc P w 0 spare held fuel e cs = some x → ∃ m : α, cellsOk w (F m) cs)
    (h : DataW.trod enc P w 0 spare held fuel t cs = some x) : ∃ xs : List α, cellsOk w [Ty.sl e' sz xs.length (xs.flatMap F)] cs := by
  rcases DataW.trod_slice ht h with ⟨rfl, _⟩ | ⟨a, len, cap, elems, rest, n, _, rfl, _, _, hl, hm, hlen, hel, _, _⟩
  · exact ⟨[], ⟨by simp, none, 0, [], rfl, Nat.le_refl _, by unfold maxLen; omega, trivial, fun hp => by simp at hp⟩, trivial⟩
  · rw [hc] at hel
    have each : ∀ i, i < len → ∃ (m : α) (vs : List Value), cellsOk w (F m) vs ∧ vs.length = sz ∧ ∀ j v, vs[j]? = some v → w.cell? ((a.add (i * sz)).add j) = some v := fun i hi => by
      have h1 := hel i hi
      obtain ⟨y, hy⟩ : ∃ y, elems[i]? = some y := ⟨_, List.getElem?_eq_getElem (by omega)⟩
      rw [hy, Option.bind_eq_some_iff] at h1
      obtain ⟨vs, hvs, htr⟩ := h1
      obtain ⟨m, hmv⟩ := rd htr
      obtain ⟨_, hlv, hg⟩ := World.cells?_some hvs
      exact ⟨m, vs, hmv, hlv, fun j v hj => by
        have hjl := (List.getElem?_eq_some_iff.1 hj).1
        rw [hg j (by omega)]; exact hj⟩
    by_cases h0 : len = 0
    · subst h0
      exact ⟨[], ⟨by simp, some a, cap, [], rfl, Nat.zero_le _, hm, trivial, fun hp => by simp at hp⟩, trivial⟩
    · obtain ⟨b, off, spot⟩ := a
      obtain ⟨m0, v0, _, hl0, hc0⟩ := each 0 (by omega)
      have hspot : spot = none := by
        obtain ⟨y, hy⟩ : ∃ y, v0[0]? = some y := ⟨_, List.getElem?_eq_getElem (by omega)⟩
        have := World.cell?_spot (hc0 0 y hy)
        simpa [Addr.add] using this
      subst hspot
      have all : ∀ k, k ≤ len → ∃ (xs : List α) (vs : List Value), xs.length = k ∧ cellsOk w (xs.flatMap F) vs ∧ vs.length = k * sz ∧ RowAt w b off vs := fun k => by
        induction k with
        | zero => exact fun _ => ⟨[], [], rfl, trivial, by simp, RowAt.nil⟩
        | succ k ih =>
          intro hk
          obtain ⟨xs, vs, hx, hcs, hvl, hr⟩ := ih (by omega)
          obtain ⟨m, us, hmu, hul, hcu⟩ := each k (by omega)
          refine ⟨xs ++ [m], vs ++ us, by simp [hx], ?_, by rw [List.length_append, hvl, hul, Nat.succ_mul], hr.app fun j v hj => ?_⟩
          · rw [List.flatMap_append]
            exact hcs.append (by simpa using hmu)
          · have := hcu j v hj
            rw [addr_add, addr_add] at this
            rw [hvl]
            exact cell_of this
      obtain ⟨xs, vs, hx, hcs, hvl, hr⟩ := all len (Nat.le_refl _)
      subst hx
      exact ⟨xs, ⟨flat_len' F sz hF xs, some ⟨b, off, none⟩, cap, vs, rfl, hl, hm, hcs, fun _ => ⟨b, off, rfl, hr⟩⟩, trivial⟩
end
end Go.Proofs.YtcmfnlleikcpnaaGreat

namespace Go.Proofs.YtcmfnlleikcpnaaGreat.M
def cmpL : List Int → List Int → Int
  | [], [] => 0
  | [], _ :: _ => -1
  | _ :: _, [] => 1
  | a :: x, b :: y => if a < b then -1 else if b < a then 1 else cmpL x y
theorem cmpL_lt {a b : List Int} {k : Nat} (h : cmpL (a.drop k) (b.drop k) = cmpL a b) (ha : k < a.length) (hb : k < b.length) (hl : nth a k < nth b k) : cmpL a b = -1 := by
  rw [← h, drop_nth ha, drop_nth hb, cmpL, if_pos hl]
theorem cmpL_gt {a b : List Int} {k : Nat} (h : cmpL (a.drop k) (b.drop k) = cmpL a b) (ha : k < a.length) (hb : k < b.length) (hl : nth b k < nth a k) : cmpL a b = 1 := by
  rw [← h, drop_nth ha, drop_nth hb, cmpL, if_neg (by omega), if_pos hl]
theorem cmpL_step {a b : List Int} {k : Nat} (h : cmpL (a.drop k) (b.drop k) = cmpL a b) (ha : k < a.length) (hb : k < b.length) (h1 : ¬ nth a k < nth b k) (h2 : ¬ nth b k < nth a k) : cmpL (a.drop (k + 1)) (b.drop (k + 1)) = cmpL a b := by
  rw [← h, drop_nth ha, drop_nth hb, cmpL, if_neg h1, if_neg h2]
theorem cmpL_end {a b : List Int} {k : Nat} (h : cmpL (a.drop k) (b.drop k) = cmpL a b) (hk : a.length ≤ k ∨ b.length ≤ k) (ha : k ≤ a.length) (hb : k ≤ b.length) : cmpL a b = if a.length < b.length then -1 else if b.length < a.length then 1 else 0 := by
  rw [← h]
  rcases Nat.lt_trichotomy a.length b.length with hl | hl | hl
  · rw [if_pos hl, List.drop_eq_nil_of_le (by omega), drop_nth (by omega)]; rfl
  · rw [if_neg (by omega), if_neg (by omega), List.drop_eq_nil_of_le (by omega), List.drop_eq_nil_of_le (by omega)]; rfl
  · rw [if_neg (by omega), if_pos hl, @List.drop_eq_nil_of_le _ b k (by omega), drop_nth (by omega)]; rfl
theorem cmpL_eq : ∀ {a b : List Int}, cmpL a b = 0 ↔ a = b
  | [], [] => by simp [cmpL]
  | [], _ :: _ => by simp [cmpL]
  | _ :: _, [] => by simp [cmpL]
  | a :: x, b :: y => by
    rw [cmpL]; split
    · rename_i h; simp; intro h2; omega
    · split
      · rename_i h; simp; intro h2; omega
      · rename_i h1 h2
        rw [cmpL_eq (a := x) (b := y)]
        have : a = b := by omega
        simp [this]
@[reducible] def posE (pits : List Int) : Pos := ⟨pits, [0, 0], 0⟩
def chAt (r : Rul) (p : Pos) (cs : List Cho) (k : Nat) : Bool :=
  (decide (k = 0) || decide ((cho cs (k - 1)).move < (cho cs k).move)) && decide ((make r p (cho cs k).move).2 = 0) && betw (cho cs k).games 1 1000000 && betw (cho cs k).score 0 (2 * (cho cs k).games)
def okCs (r : Rul) (p : Pos) (cs : List Cho) : Bool := (List.range cs.length).all (chAt r p cs)
def okE (r : Rul) (e : Ent) : Bool := okP r (posE e.pits) && decide (0 < e.choices.length) && okCs r (posE e.pits) e.choices
def entAt (r : Rul) (es : List Ent) (k : Nat) : Bool := (decide (k = 0) || decide (cmpL (ent es (k - 1)).pits (ent es k).pits < 0)) && okE r (ent es k)
def okB (b : Boo) : Bool := okR b.rules && decide (b.entries.length ≤ 200) && (List.range b.entries.length).all (entAt b.rules b.entries)
def AllB (f : Nat → Bool) (k : Nat) : Prop := ∀ i, i < k → f i = true
theorem AllB.zero (f : Nat → Bool) : AllB f 0 := fun i h => absurd h (by omega)
theorem AllB.step {f : Nat → Bool} {k : Nat} (h : AllB f k) (hk : f k = true) : AllB f (k + 1) := fun i hi => by
  by_cases e : i = k
  · rw [e]; exact hk
  · exact h i (by omega)
theorem all_yes {f : Nat → Bool} {n k : Nat} (h : AllB f k) (hk : n ≤ k) : (List.range n).all f = true := by
  rw [List.all_eq_true]; intro i hi; exact h i (by have := List.mem_range.1 hi; omega)
theorem all_no {f : Nat → Bool} {n k : Nat} (hk : k < n) (h : f k = false) : (List.range n).all f = false := by
  cases e : (List.range n).all f
  · rfl
  · rw [List.all_eq_true] at e; rw [e k (List.mem_range.2 hk)] at h; exact absurd h (by simp)
theorem all_at {f : Nat → Bool} {n k : Nat} (h : (List.range n).all f = true) (hk : k < n) : f k = true := by
  rw [List.all_eq_true] at h; exact h k (List.mem_range.2 hk)
theorem pred_nat {k : Nat} : ((k : Int) - 1).toNat = k - 1 := by omega
theorem prev_lt (k : Nat) (a b : Int) : (decide (k = 0) || decide (a < b)) = !(decide (0 < (k : Int)) && decide (b ≤ a)) := by
  by_cases hk : k = 0
  · subst hk; simp
  · have h1 : (0 : Int) < (k : Int) := by omega
    rw [decide_eq_false hk, decide_eq_true h1]
    by_cases hab : a < b
    · rw [decide_eq_true hab, decide_eq_false (by omega)]; rfl
    · rw [decide_eq_false hab, decide_eq_true (by omega)]; rfl
theorem chAt_eq (r : Rul) (p : Pos) (cs : List Cho) (k : Nat) : chAt r p cs k = !(((decide (0 < (k : Int)) && decide ((cho cs k).move ≤ (cho cs (((k : Int) - 1).toNat)).move) || !decide ((make r p (cho cs k).move).2 = 0)) || !betw (cho cs k).games 1 1000000) || !betw (cho cs k).score 0 (2 * (cho cs k).games)) := by
  unfold chAt
  rw [prev_lt, pred_nat]
  simp only [Bool.not_or, Bool.not_not]
theorem chAt_yes {r : Rul} {p : Pos} {cs : List Cho} {k : Nat} (h : (((decide (0 < (k : Int)) && decide ((cho cs k).move ≤ (cho cs (((k : Int) - 1).toNat)).move) || !decide ((make r p (cho cs k).move).2 = 0)) || !betw (cho cs k).games 1 1000000) || !betw (cho cs k).score 0 (2 * (cho cs k).games)) = false) : chAt r p cs k = true := by rw [chAt_eq, h]; rfl
theorem chAt_no {r : Rul} {p : Pos} {cs : List Cho} {k : Nat} (h : (((decide (0 < (k : Int)) && decide ((cho cs k).move ≤ (cho cs (((k : Int) - 1).toNat)).move) || !decide ((make r p (cho cs k).move).2 = 0)) || !betw (cho cs k).games 1 1000000) || !betw (cho cs k).score 0 (2 * (cho cs k).games)) = true) : chAt r p cs k = false := by rw [chAt_eq, h]; rfl
theorem chAt_prev {r : Rul} {p : Pos} {cs : List Cho} {k : Nat} (h : (decide (0 < (k : Int)) && decide ((cho cs k).move ≤ (cho cs (((k : Int) - 1).toNat)).move)) = true) : chAt r p cs k = false := chAt_no (by rw [h]; rfl)
def ch18 (cs : List Cho) (k : Nat) : Bool := ((decide (0 < (k : Int)) && decide ((cho cs k).move ≤ (cho cs (((k : Int) - 1).toNat)).move)) || !betw (cho cs k).games 1 1000000) || !betw (cho cs k).score 0 (2 * (cho cs k).games)
theorem chAt_18 {r : Rul} {p : Pos} {cs : List Cho} {k : Nat} (h : ch18 cs k = true) : chAt r p cs k = false := chAt_no (by
  unfold ch18 at h; revert h
  generalize (decide (0 < (k : Int)) && decide ((cho cs k).move ≤ (cho cs (((k : Int) - 1).toNat)).move)) = a
  generalize betw (cho cs k).games 1 1000000 = b
  generalize betw (cho cs k).score 0 (2 * (cho cs k).games) = c
  cases a <;> cases b <;> cases c <;> simp)
theorem chAt_21 {r : Rul} {p : Pos} {cs : List Cho} {k : Nat} (h1 : ¬ (make r p (cho cs k).move).2 = 0) : chAt r p cs k = false := chAt_no (by rw [decide_eq_false h1]; simp)
theorem chAt_all {r : Rul} {p : Pos} {cs : List Cho} {k : Nat} (h : ch18 cs k = false) (h1 : (make r p (cho cs k).move).2 = 0) : chAt r p cs k = true := chAt_yes (by
  rw [decide_eq_true h1]
  unfold ch18 at h; revert h
  generalize (decide (0 < (k : Int)) && decide ((cho cs k).move ≤ (cho cs (((k : Int) - 1).toNat)).move)) = a
  generalize betw (cho cs k).games 1 1000000 = b
  generalize betw (cho cs k).score 0 (2 * (cho cs k).games) = c
  cases a <;> cases b <;> cases c <;> simp)
theorem prev_lt0 (k : Nat) (c : Int) : (decide (k = 0) || decide (c < 0)) = !(decide (0 < (k : Int)) && decide (0 ≤ c)) := prev_lt k c 0
theorem entAt_eq (r : Rul) (es : List Ent) (k : Nat) : entAt r es k = !((decide (0 < (k : Int)) && decide (0 ≤ cmpL (ent es (((k : Int) - 1).toNat)).pits (ent es k).pits)) || !okE r (ent es k)) := by
  unfold entAt
  rw [prev_lt0, pred_nat]
  simp only [Bool.not_or, Bool.not_not]
theorem entAt_yes {r : Rul} {es : List Ent} {k : Nat} (h : ((decide (0 < (k : Int)) && decide (0 ≤ cmpL (ent es (((k : Int) - 1).toNat)).pits (ent es k).pits)) || !okE r (ent es k)) = false) : entAt r es k = true := by rw [entAt_eq, h]; rfl
theorem entAt_no {r : Rul} {es : List Ent} {k : Nat} (h : ((decide (0 < (k : Int)) && decide (0 ≤ cmpL (ent es (((k : Int) - 1).toNat)).pits (ent es k).pits)) || !okE r (ent es k)) = true) : entAt r es k = false := by rw [entAt_eq, h]; rfl
theorem entAt_yes' {r : Rul} {es : List Ent} {k : Nat} (h : (!okE r (ent es k) || (decide (0 < (k : Int)) && decide (0 ≤ cmpL (ent es (((k : Int) - 1).toNat)).pits (ent es k).pits))) = false) : entAt r es k = true := entAt_yes (by rw [Bool.or_comm]; exact h)
theorem entAt_no' {r : Rul} {es : List Ent} {k : Nat} (h : (!okE r (ent es k) || (decide (0 < (k : Int)) && decide (0 ≤ cmpL (ent es (((k : Int) - 1).toNat)).pits (ent es k).pits))) = true) : entAt r es k = false := entAt_no (by rw [Bool.or_comm]; exact h)
theorem okE_p {r : Rul} {e : Ent} (h : okP r (posE e.pits) = false ∨ e.choices.length = 0) : okE r e = false := by
  unfold okE
  rcases h with h | h
  · rw [h]; rfl
  · rw [h]; simp
theorem okE_cs {r : Rul} {e : Ent} (h1 : okP r (posE e.pits) = true) (h2 : e.choices.length ≠ 0) : okE r e = okCs r (posE e.pits) e.choices := by
  unfold okE; rw [h1, decide_eq_true (by omega)]; simp
theorem okE_parts {r : Rul} {e : Ent} (h : okE r e = true) : okP r (posE e.pits) = true ∧ 0 < e.choices.length ∧ okCs r (posE e.pits) e.choices = true := by
  unfold okE at h; simp only [Bool.and_eq_true, decide_eq_true_eq] at h; exact ⟨h.1.1, h.1.2, h.2⟩
theorem okB_r {b : Boo} (h : okR b.rules = false ∨ 200 < b.entries.length) : okB b = false := by
  unfold okB
  rcases h with h | h
  · rw [h]; rfl
  · rw [decide_eq_false (by omega)]; simp
theorem okB_es {b : Boo} (h1 : okR b.rules = true) (h2 : b.entries.length ≤ 200) : okB b = (List.range b.entries.length).all (entAt b.rules b.entries) := by
  unfold okB; rw [h1, decide_eq_true h2]; simp
theorem okB_parts {b : Boo} (h : okB b = true) : okR b.rules = true ∧ b.entries.length ≤ 200 ∧ (List.range b.entries.length).all (entAt b.rules b.entries) = true := by
  unfold okB at h; simp only [Bool.and_eq_true, decide_eq_true_eq] at h; exact ⟨h.1.1, h.1.2, h.2⟩
theorem okB_ent {b : Boo} (h : okB b = true) {k : Nat} (hk : k < b.entries.length) : okE b.rules (ent b.entries k) = true := by
  have := all_at (okB_parts h).2.2 hk
  unfold entAt at this; simp only [Bool.and_eq_true] at this; exact this.2
end Go.Proofs.YtcmfnlleikcpnaaGreat.M

namespace Go.Proofs.YtcmfnlleikcpnaaGreat.M
structure Opt where
  move : Int
  value : Int
  deriving DecidableEq
structure Puz where
  rules : Rul
  position : Pos
  depth : Int
  move : Int
  value : Int
  margin : Int
  deriving DecidableEq
def Opt.zero : Opt := ⟨0, 0⟩
def Puz.zero : Puz := ⟨Rul.zero, Pos.zero, 0, 0, 0, 0⟩
def endV (r : Rul) (p : Pos) : Int := side r p.pits p.player - side r p.pits (1 - p.player)
def moveV (x : Res) (v : Int) : Int := if x.again = true then x.gain + v else x.gain - v
def bestF (fst : Bool) (b : Int) : List Int → Int
  | [] => b
  | v :: l => bestF false (if fst = true ∨ b < v then v else b) l
def best (l : List Int) : Int := bestF true 0 l
theorem results_fact {r : Rul} {p : Pos} {x : Res} (h : x ∈ results r p) : ∃ move : Int, (make r p move).2 = 0 ∧ x = (make r p move).1 := by
  obtain ⟨m, _, h2, h3⟩ := resultsTo_mem.1 h
  exact ⟨_, h2, h3⟩
def val (r : Rul) : Nat → Pos → Int
  | 0, p => if (results r p).length = 0 then endV r p else 0
  | d + 1, p => if (results r p).length = 0 then endV r p else best ((results r p).map fun x => moveV x (val r d x.next))
def vals (r : Rul) (d : Nat) (p : Pos) : List Int := (results r p).map fun x => moveV x (val r d x.next)
theorem drop_some {α : Type} {l : List α} {k : Nat} {y : α} (h : l[k]? = some y) : l.drop k = y :: l.drop (k + 1) := by
  obtain ⟨hk, rfl⟩ := List.getElem?_eq_some_iff.1 h
  exact List.drop_eq_getElem_cons hk
def size (r : Rul) : Nat → Pos → Int
  | 0, _ => 1
  | d + 1, p => 1 + isum ((results r p).map fun x => size r d x.next)
theorem size_pos (r : Rul) : ∀ (d : Nat) (p : Pos), 1 ≤ size r d p
  | 0, _ => by rw [size]; omega
  | d + 1, p => by
    rw [size]
    have := nn_isum (l := (results r p).map fun x => size r d x.next) (fun v hv => by
      obtain ⟨x, _, rfl⟩ := List.mem_map.1 hv
      have := size_pos r d x.next; omega)
    omega
theorem isum_mem {l : List Int} {v : Int} (h : nn l) (hv : v ∈ l) : v ≤ isum l := by
  obtain ⟨k, hk, rfl⟩ := List.getElem_of_mem hv
  rw [← nth_eq hk]; exact nth_le_isum h k
theorem size_sub {r : Rul} {d : Nat} {p : Pos} {x : Res} (h : x ∈ results r p) : size r d x.next ≤ size r (d + 1) p := by
  have := isum_mem (l := (results r p).map fun x => size r d x.next) (v := size r d x.next) (fun v hv => by
      obtain ⟨x, _, rfl⟩ := List.mem_map.1 hv
      have := size_pos r d x.next; omega) (List.mem_map.2 ⟨x, h, rfl⟩)
  rw [size]; omega
def srchC (r : Rul) (p : Pos) (depth : Int) : Int := if okP r p = true then (if betw depth 0 8 = true then (if 3000 < size r depth.toNat p then 5 else 0) else 2) else 1
theorem srchC_ok {r : Rul} {p : Pos} {depth : Int} (h : srchC r p depth = 0) : okP r p = true ∧ 0 ≤ depth ∧ depth ≤ 8 ∧ size r depth.toNat p ≤ 3000 := by
  unfold srchC at h
  by_cases h1 : okP r p = true
  · rw [if_pos h1] at h
    by_cases h2 : betw depth 0 8 = true
    · rw [if_pos h2] at h
      by_cases h3 : 3000 < size r depth.toNat p
      · rw [if_pos h3] at h; simp at h
      · have := betw_iff.1 h2; exact ⟨h1, this.1, this.2, by omega⟩
    · rw [if_neg h2] at h; simp at h
  · rw [if_neg h1] at h; simp at h
def optOf (r : Rul) (d : Nat) (x : Res) : Opt := ⟨x.move, moveV x (val r d x.next)⟩
def opts (r : Rul) (p : Pos) (depth : Int) : List Opt := (results r p).map (optOf r (depth - 1).toNat)
theorem opts_len (r : Rul) (p : Pos) (depth : Int) : (opts r p depth).length = (results r p).length := by simp [opts]
def bOptF (b : Opt) : List Opt → Opt
  | [] => b
  | o :: l => bOptF (if b.value < o.value then o else b) l
def bOpt : List Opt → Opt
  | [] => Opt.zero
  | a :: l => bOptF a l
theorem bOptF_mem : ∀ (l : List Opt) (b : Opt), bOptF b l = b ∨ bOptF b l ∈ l
  | [], b => .inl rfl
  | o :: l, b => by
    rw [bOptF]
    rcases bOptF_mem l (if b.value < o.value then o else b) with h | h
    · rw [h]; split
      · exact .inr (by simp)
      · exact .inl rfl
    · exact .inr (by simp [h])
theorem bOpt_mem {l : List Opt} (h : l.length ≠ 0) : bOpt l ∈ l := by
  cases l with
  | nil => simp at h
  | cons a t =>
    rcases bOptF_mem t a with e | e
    · show bOptF a t ∈ _; rw [e]; simp
    · show bOptF a t ∈ _; simp [e]
theorem bOpt_make {r : Rul} {p : Pos} {depth : Int} (h : (results r p).length ≠ 0) : (make r p (bOpt (opts r p depth)).move).2 = 0 ∧ (make r p (bOpt (opts r p depth)).move).1 ∈ results r p := by
  have h1 := bOpt_mem (l := opts r p depth) (by rw [opts_len]; exact h)
  obtain ⟨x, hx, e⟩ := List.mem_map.1 h1
  obtain ⟨m, hm, rfl⟩ := results_fact hx
  have h3 := (make_ok hm).2.2.2.2.1
  have h4 : (bOpt (opts r p depth)).move = m := by rw [← e]; exact h3
  rw [h4]; exact ⟨hm, hx⟩
def lineT (r : Rul) : Nat → Pos → List Int
  | 0, _ => []
  | d + 1, p => if (results r p).length = 0 then [] else (bOpt (opts r p (d + 1 : Nat))).move :: lineT r d (make r p (bOpt (opts r p (d + 1 : Nat))).move).1.next
structure Line (r : Rul) (p0 : Pos) (d0 : Int) (out : List Int) (p : Pos) (depth : Int) : Prop where
  ok : okP r p = true
  lo : 0 ≤ depth
  hi : depth ≤ 8
  sz : size r depth.toNat p ≤ 3000
  eq : out ++ lineT r depth.toNat p = lineT r d0.toNat p0
  ln : (out.length : Int) + depth = d0
theorem Line.zero {r : Rul} {p : Pos} {d : Int} (h : srchC r p d = 0) : Line r p d [] p d := by
  obtain ⟨a, b, c, e⟩ := srchC_ok h
  exact ⟨a, b, c, e, rfl, by simp⟩
theorem Line.done {r : Rul} {p0 p : Pos} {d0 d : Int} {out : List Int} (h : Line r p0 d0 out p d) (hd : d ≤ 0) : lineT r d0.toNat p0 = out := by
  have := h.eq; rw [show d.toNat = 0 by omega, lineT, List.append_nil] at this; exact this.symm
theorem Line.step {r : Rul} {p0 p : Pos} {d0 d : Int} {out : List Int} (h : Line r p0 d0 out p d) (hd : 0 < d) (hl : (results r p).length ≠ 0) :
    Line r p0 d0 (out ++ [(bOpt (opts r p d)).move]) (make r p (bOpt (opts r p d)).move).1.next (d - 1) := by
  have hm := bOpt_make (depth := d) hl
  have e1 : d.toNat = (d - 1).toNat + 1 := by omega
  have e2 : (((d - 1).toNat + 1 : Nat) : Int) = d := by omega
  refine ⟨(make_ok hm.1).2.2.2.1, by omega, by have := h.hi; omega, ?_, ?_, ?_⟩
  · have := size_sub (d := (d - 1).toNat) hm.2
    rw [← e1] at this; have := h.sz; omega
  · have := h.eq
    rw [e1, lineT, if_neg hl, e2] at this
    rw [List.append_assoc]; exact this
  · have := h.ln; simp; omega
def second (m : Int) (s : Int) : List Opt → Int
  | [] => s
  | o :: l => second m (if o.move = m then s else if s < o.value then o.value else s) l
def turnP (r : Rul) (p : Pos) : Pos := ⟨p.pits.drop r.pits.toNat ++ p.pits.take r.pits.toNat, [nth p.stores 1, nth p.stores 0], 1 - p.player⟩
structure SmallP (p : Pos) : Prop where
  sp : p.pits.length ≤ 4194304
  ss : p.stores.length ≤ 4194304
theorem SmallP.zero : SmallP Pos.zero := ⟨by decide, by decide⟩
theorem SmallP.ok {r : Rul} {p : Pos} (h : okP r p = true) : SmallP p := ⟨(okP_len h).1, (okP_len h).2⟩
end Go.Proofs.YtcmfnlleikcpnaaGreat.M

namespace Go.Proofs.YtcmfnlleikcpnaaGreat.M
section
variable {α : Type} (f : Int → α → α) (sz : α → Int)
def mkL : Int → List α → List α
  | _, [] => []
  | k, x :: l => f k x :: mkL (k + sz x) l
def szs : List α → Int
  | [] => 0
  | x :: l => sz x + szs l
theorem mkL_len : ∀ (k : Int) (l : List α), (mkL f sz k l).length = l.length
  | _, [] => rfl
  | k, x :: l => by rw [mkL, List.length_cons, mkL_len, List.length_cons]
theorem mkL_get : ∀ (l : List α) (k : Int) (i : Nat) (y : α), l[i]? = some y → (mkL f sz k l)[i]? = some (f (k + szs sz (l.take i)) y)
  | x :: l, k, 0, y, h => by simp at h; subst h; simp [mkL, szs]
  | x :: l, k, i + 1, y, h => by
    simp at h
    rw [mkL, List.getElem?_cons_succ, mkL_get l _ i y h, List.take_succ_cons, szs, Int.add_assoc]
  | [], _, _, _, h => by simp at h
theorem szs_step : ∀ (l : List α) (i : Nat) (y : α), l[i]? = some y → szs sz (l.take (i + 1)) = szs sz (l.take i) + sz y
  | x :: l, 0, y, h => by simp at h; subst h; simp [szs]
  | x :: l, i + 1, y, h => by
    simp at h
    rw [List.take_succ_cons, szs, szs_step l i y h, List.take_succ_cons, szs, Int.add_assoc]
  | [], _, _, h => by simp at h
def mkd2 (k : Int) (l : List α) (i : Nat) : List α := (mkL f sz k l).take i ++ l.drop i
theorem mkd2_zero (k : Int) (l : List α) : l = mkd2 f sz k l 0 := by simp [mkd2]
theorem mkd2_step {k : Int} {l : List α} {i : Nat} {y : α} (h : l[i]? = some y) : (mkd2 f sz k l i).set i (f (k + szs sz (l.take i)) y) = mkd2 f sz k l (i + 1) := by
  obtain ⟨hi, hy⟩ := List.getElem?_eq_some_iff.1 h
  have h1 : ((mkL f sz k l).take i).length = i := by rw [List.length_take, mkL_len]; omega
  unfold mkd2
  rw [List.set_append_right _ _ (by omega), h1, Nat.sub_self, List.drop_eq_getElem_cons hi, List.set_cons_zero, List.take_add_one, mkL_get f sz l k i y h]
  simp
theorem mkd2_get {k : Int} {l : List α} {i : Nat} {y : α} (h : (mkd2 f sz k l i)[i]? = some y) : l[i]? = some y := by
  by_cases hi : i < l.length
  · have h1 : ((mkL f sz k l).take i).length = i := by rw [List.length_take, mkL_len]; omega
    unfold mkd2 at h
    rw [List.getElem?_append_right (by omega), h1, Nat.sub_self, List.getElem?_drop] at h
    exact h
  · unfold mkd2 at h
    rw [List.getElem?_eq_none (by rw [List.length_append, List.length_take, mkL_len, List.length_drop]; omega)] at h
    cases h
theorem mkd2_end {k : Int} {l : List α} {i : Nat} (h : i = l.length) : mkd2 f sz k l i = mkL f sz k l := by
  subst h; unfold mkd2; rw [List.drop_length, List.append_nil, List.take_of_length_le (by rw [mkL_len]; omega)]
variable (hf : Int → α → Int)
def heldL : Int → List α → Int
  | k, [] => k
  | k, x :: l => if hf k x < 0 then -1 else heldL (hf k x) l
theorem szs_nn (h0 : ∀ x, 0 ≤ sz x) : ∀ l : List α, 0 ≤ szs sz l
  | [] => by simp [szs]
  | x :: l => by have := szs_nn h0 l; have := h0 x; rw [szs]; omega
end
section
variable {α : Type}
theorem upto_step {a b : List α} {k : Nat} {x : α} (h : a.take k = b.take k) (ha : a[k]? = some x) (hb : b[k]? = some x) : a.take (k + 1) = b.take (k + 1) := by
  rw [List.take_add_one, List.take_add_one, h, ha, hb]
theorem upto_done {a b : List α} {k : Nat} (h : a.take k = b.take k) (ha : a.length ≤ k) (hb : b.length ≤ k) : a = b := by
  rwa [List.take_of_length_le ha, List.take_of_length_le hb] at h
theorem upto_ne {a b : List α} {k : Nat} {x y : α} (ha : a[k]? = some x) (hb : b[k]? = some y) (h : x ≠ y) : a ≠ b := by
  rintro rfl; rw [ha] at hb; cases hb; exact h rfl
end
def hQ (k : Int) (p : Pos) : Int := if held p.pits k < 0 then -1 else if held p.stores (held p.pits k) < 0 then -1 else if p.player ≠ held p.stores (held p.pits k) then -1 else held p.stores (held p.pits k) + 1
end Go.Proofs.YtcmfnlleikcpnaaGreat.M

namespace Go.Proofs.YtcmfnlleikcpnaaGreat.M
section
variable {α : Type}
def cpS (z : α) (a : List α) (k : Nat) : List α := a.take k ++ List.replicate (a.length - k) z
theorem cpS_zero (z : α) (a : List α) : List.replicate a.length z = cpS z a 0 := by simp [cpS]
theorem cpS_step {z y : α} {a : List α} {k : Nat} (h : a[k]? = some y) : (cpS z a k).set k y = cpS z a (k + 1) := by
  obtain ⟨hk, rfl⟩ := List.getElem?_eq_some_iff.1 h
  have h1 : (a.take k).length = k := by rw [List.length_take]; omega
  unfold cpS
  have e : a.take (k + 1) = a.take k ++ [a[k]] := by rw [List.take_add_one, List.getElem?_eq_getElem hk]; rfl
  rw [List.set_append_right _ _ (by omega), h1, Nat.sub_self, e, show a.length - k = (a.length - (k + 1)) + 1 by omega, List.replicate_succ, List.set_cons_zero, List.append_assoc]
  rfl
theorem cpS_all {z : α} {a : List α} {k : Nat} (h : a.length ≤ k) : cpS z a k = a := by
  unfold cpS; rw [List.take_of_length_le h, show a.length - k = 0 by omega]; simp
end
theorem cho_set {cs : List Cho} {k : Nat} {y : Cho} (h : k < cs.length) : cho (cs.set k y) k = y := by simp [cho, List.getD, h]
theorem cho_ext {a b : Cho} (h1 : a.move = b.move) (h2 : a.games = b.games) (h3 : a.score = b.score) : a = b := by cases a; cases b; simp_all
theorem ent_ext {a b : Ent} (h1 : a.pits = b.pits) (h2 : a.choices = b.choices) : a = b := by cases a; cases b; simp_all
theorem boo_ext {a b : Boo} (h1 : a.rules = b.rules) (h2 : a.entries = b.entries) : a = b := by cases a; cases b; simp_all
def totE : List Ent → Nat
  | [] => 0
  | e :: es => e.pits.length + e.choices.length + totE es
theorem totE_app : ∀ (a b : List Ent), totE (a ++ b) = totE a + totE b
  | [], b => by simp [totE]
  | e :: a, b => by rw [List.cons_append, totE, totE_app a b, totE]; omega
theorem totE_step {es : List Ent} {i : Nat} (h : i < es.length) : totE (es.take (i + 1)) = totE (es.take i) + ((ent es i).pits.length + (ent es i).choices.length) := by
  rw [List.take_add_one, ent_get h, totE_app]; simp [totE]
theorem totE_le (es : List Ent) (i : Nat) : totE (es.take i) ≤ totE es := by
  conv => rhs; rw [← List.take_append_drop i es, totE_app]
  omega
theorem totE_mem {es : List Ent} {x : Ent} (h : x ∈ es) : x.pits.length + x.choices.length ≤ totE es := by
  induction es with
  | nil => simp at h
  | cons e es ih =>
    rcases List.mem_cons.1 h with rfl | h
    · rw [totE]; omega
    · have := ih h; rw [totE]; omega
theorem totE_small {es : List Ent} {n : Nat} (h : totE es ≤ n) : ∀ x ∈ es, x.pits.length ≤ n ∧ x.choices.length ≤ n := fun x hx => by have := totE_mem hx; omega
def fC (k : Int) (_ : Cho) : Cho := ⟨k, k + 1, k + 2⟩
def sC (_ : Cho) : Int := 3
def hC (k : Int) (x : Cho) : Int := if x.move ≠ k then -1 else if x.games ≠ k + 1 then -1 else if x.score ≠ k + 2 then -1 else k + 3
theorem szs_C : ∀ l : List Cho, szs sC l = 3 * (l.length : Int)
  | [] => rfl
  | x :: l => by rw [szs, szs_C l, List.length_cons, sC]; omega
def fE (k : Int) (e : Ent) : Ent := ⟨up k e.pits.length, mkL fC sC (k + e.pits.length) e.choices⟩
def sE (e : Ent) : Int := e.pits.length + 3 * e.choices.length
def hE (k : Int) (e : Ent) : Int := if held e.pits k < 0 then -1 else if heldL hC (held e.pits k) e.choices < 0 then -1 else heldL hC (held e.pits k) e.choices
theorem sE_nn (e : Ent) : 0 ≤ sE e := by unfold sE; omega
theorem szs_E_le (l : List Ent) : szs sE l ≤ 3 * (totE l : Int) := by
  induction l with
  | nil => simp [szs, totE]
  | cons e l ih => rw [szs, totE, sE]; omega
theorem szs_E_take (l : List Ent) (i : Nat) : szs sE (l.take i) ≤ 3 * (totE l : Int) := by
  have := szs_E_le (l.take i); have := totE_le l i; omega
theorem szs_E_nn (l : List Ent) : 0 ≤ szs sE l := szs_nn sE sE_nn l
end Go.Proofs.YtcmfnlleikcpnaaGreat.M

namespace Go.Proofs.YtcmfnlleikcpnaaGreat.M
theorem cmpL_neg : ∀ a b : List Int, cmpL a b = -cmpL b a
  | [], [] => rfl
  | [], _ :: _ => rfl
  | _ :: _, [] => rfl
  | a :: x, b :: y => by
    rw [cmpL, cmpL]
    by_cases h1 : a < b
    · rw [if_pos h1, if_neg (by omega), if_pos h1]
    · rw [if_neg h1]
      by_cases h2 : b < a
      · rw [if_pos h2, if_pos h2]; rfl
      · rw [if_neg h2, if_neg h2, if_neg h1]; exact cmpL_neg x y
theorem cmpL_trans : ∀ {a b c : List Int}, cmpL a b < 0 → cmpL b c < 0 → cmpL a c < 0
  | [], [], _, h, _ => by simp [cmpL] at h
  | _ :: _, [], _, h, _ => by simp [cmpL] at h
  | _, _ :: _, [], _, h => by simp [cmpL] at h
  | [], _ :: _, _ :: _, _, _ => by simp [cmpL]
  | a :: x, b :: y, c :: z, h1, h2 => by
    rw [cmpL] at h1 h2 ⊢
    by_cases e1 : a < b
    · by_cases e2 : b < c
      · rw [if_pos (by omega)]; omega
      · rw [if_neg e2] at h2
        by_cases e3 : c < b
        · rw [if_pos e3] at h2; omega
        · rw [if_pos (by omega)]; omega
    · rw [if_neg e1] at h1
      by_cases e4 : b < a
      · rw [if_pos e4] at h1; omega
      · rw [if_neg e4] at h1
        have : a = b := by omega
        subst this
        by_cases e2 : a < c
        · rw [if_pos e2]; omega
        · rw [if_neg e2] at h2 ⊢
          by_cases e3 : c < a
          · rw [if_pos e3] at h2; omega
          · rw [if_neg e3] at h2 ⊢; exact cmpL_trans h1 h2
def viewP (r : Rul) (p : Pos) : Pos := if p.player = 0 then p else turnP r p
theorem viewP_0 {r : Rul} {p : Pos} (h : p.player = 0) : viewP r p = p := by unfold viewP; rw [if_pos h]
theorem viewP_1 {r : Rul} {p : Pos} (h : ¬ p.player = 0) : viewP r p = turnP r p := by unfold viewP; rw [if_neg h]
theorem viewP_len {r : Rul} {p : Pos} (h : okP r p = true) : (viewP r p).pits.length ≤ 4194304 ∧ (viewP r p).stores.length ≤ 4194304 := by
  have hb := okP_bd h
  unfold viewP; split
  · omega
  · simp [turnP]; omega
def lookE : List Ent → List Int → List Cho
  | [], _ => []
  | e :: es, pits => if e.pits = pits then e.choices else lookE es pits
theorem lookE_step {es : List Ent} {pits : List Int} {k : Nat} (h : lookE (es.drop k) pits = lookE es pits) (hk : k < es.length) (hn : (ent es k).pits ≠ pits) : lookE (es.drop (k + 1)) pits = lookE es pits := by
  rw [drop_some (ent_get hk), lookE, if_neg hn] at h; exact h
theorem lookE_hit {es : List Ent} {pits : List Int} {k : Nat} (h : lookE (es.drop k) pits = lookE es pits) (hk : k < es.length) (hn : (ent es k).pits = pits) : lookE es pits = (ent es k).choices := by
  rw [← h, drop_some (ent_get hk), lookE, if_pos hn]
theorem lookE_end {es : List Ent} {pits : List Int} {k : Nat} (h : lookE (es.drop k) pits = lookE es pits) (hk : es.length ≤ k) : lookE es pits = [] := by
  rw [← h, List.drop_eq_nil_of_le hk]; rfl
def findE : List Ent → List Int → Nat
  | [], _ => 0
  | e :: es, pits => if 0 ≤ cmpL e.pits pits then 0 else findE es pits + 1
theorem findE_step {es : List Ent} {pits : List Int} {k : Nat} (h : k + findE (es.drop k) pits = findE es pits) (hk : k < es.length) (hn : ¬ 0 ≤ cmpL (ent es k).pits pits) : k + 1 + findE (es.drop (k + 1)) pits = findE es pits := by
  rw [drop_some (ent_get hk), findE, if_neg hn] at h; omega
theorem findE_hit {es : List Ent} {pits : List Int} {k : Nat} (h : k + findE (es.drop k) pits = findE es pits) (hk : k < es.length) (hn : 0 ≤ cmpL (ent es k).pits pits) : findE es pits = k := by
  rw [← h, drop_some (ent_get hk), findE, if_pos hn]; rfl
theorem findE_end {es : List Ent} {pits : List Int} {k : Nat} (h : k + findE (es.drop k) pits = findE es pits) (hk : es.length ≤ k) (hk2 : k ≤ es.length) : findE es pits = es.length := by
  rw [← h, List.drop_eq_nil_of_le hk]; show k + 0 = _; omega
def hasE (es : List Ent) (pits : List Int) : Bool := decide (findE es pits < es.length) && decide (cmpL (ent es (findE es pits)).pits pits = 0)
theorem hasE_hit {es : List Ent} {pits : List Int} {k : Nat} (h : findE es pits = k) (hk : k < es.length) : hasE es pits = decide (cmpL (ent es k).pits pits = 0) := by
  unfold hasE; rw [h, decide_eq_true hk]; simp
theorem hasE_end {es : List Ent} {pits : List Int} (h : findE es pits = es.length) : hasE es pits = false := by
  unfold hasE; rw [h]; simp
theorem hasE_lt {es : List Ent} {pits : List Int} (h : hasE es pits = true) : findE es pits < es.length := by
  unfold hasE at h; simp only [Bool.and_eq_true, decide_eq_true_eq] at h; exact h.1
theorem hasE_look {es : List Ent} {pits : List Int} (h : hasE es pits = true) : lookE es pits = (ent es (findE es pits)).choices := by
  induction es with
  | nil => simp [hasE] at h
  | cons e es ih =>
    have hlt := hasE_lt h
    unfold hasE at h
    rw [findE] at h hlt ⊢
    rw [lookE]
    by_cases hc : 0 ≤ cmpL e.pits pits
    · rw [if_pos hc] at h ⊢
      have he : e.pits = pits := by
        simp only [Bool.and_eq_true, decide_eq_true_eq] at h
        exact cmpL_eq.1 h.2
      rw [if_pos he]; rfl
    · rw [if_neg hc] at h ⊢
      rw [if_neg (fun he => hc (by rw [cmpL_eq.2 he]; omega))]
      exact ih (by unfold hasE; simpa [ent] using h)
def SortE (es : List Ent) : Prop := ∀ i j, i < j → j < es.length → cmpL (ent es i).pits (ent es j).pits < 0
theorem sortE_of {r : Rul} {es : List Ent} (h : (List.range es.length).all (entAt r es) = true) : SortE es := by
  intro i j hij hj
  induction j with
  | zero => omega
  | succ j ih =>
    have h1 : cmpL (ent es j).pits (ent es (j + 1)).pits < 0 := by
      have := all_at h hj
      unfold entAt at this
      simp only [Bool.and_eq_true, Bool.or_eq_true, decide_eq_true_eq] at this
      rcases this.1 with h0 | h0
      · omega
      · exact h0
    by_cases e : i = j
    · rw [e]; exact h1
    · exact cmpL_trans (ih (by omega) (by omega)) h1
theorem SortE.tail {e : Ent} {es : List Ent} (h : SortE (e :: es)) : SortE es := fun i j hij hj => by
  have := h (i + 1) (j + 1) (by omega) (by simp; omega)
  simpa [ent] using this
theorem look_none {es : List Ent} {pits : List Int} (hs : SortE es) (h : hasE es pits = false) : lookE es pits = [] := by
  induction es with
  | nil => rfl
  | cons e es ih =>
    rw [lookE]
    by_cases hc : 0 ≤ cmpL e.pits pits
    · have hne : ¬ e.pits = pits := fun he => by
        unfold hasE at h
        rw [findE, if_pos hc] at h
        have : cmpL (ent (e :: es) 0).pits pits = 0 := cmpL_eq.2 he
        simp [this] at h
      rw [if_neg hne]
      have hgt : cmpL pits e.pits < 0 := by
        rw [cmpL_neg]
        have : cmpL e.pits pits ≠ 0 := fun h0 => hne (cmpL_eq.1 h0)
        omega
      -- none behind it is the same
      have key : ∀ l : List Ent, (∀ x ∈ l, cmpL pits x.pits < 0) → lookE l pits = [] := fun l => by
        induction l with
        | nil => exact fun _ => rfl
        | cons x l ih =>
          intro hx
          rw [lookE, if_neg]
          · exact ih fun y hy => hx y (by simp [hy])
          · intro he
            have := hx x (by simp)
            rw [← he, cmpL_eq.2 rfl] at this; omega
      refine key es fun x hx => ?_
      obtain ⟨i, hi⟩ := List.mem_iff_getElem?.1 hx
      have hil := (List.getElem?_eq_some_iff.1 hi).1
      have := hs 0 (i + 1) (by omega) (by simp; omega)
      have e1 : ent (e :: es) (i + 1) = x := by simp [ent, List.getD, hi]
      rw [e1] at this
      exact cmpL_trans hgt this
    · rw [if_neg (fun he => hc (by rw [cmpL_eq.2 he]; omega))]
      refine ih hs.tail ?_
      unfold hasE at h ⊢
      rw [findE, if_neg hc] at h
      simpa [ent] using h
theorem lookE_mem {es : List Ent} {pits : List Int} {n : Nat} (h : ∀ x ∈ es, x.choices.length ≤ n) : (lookE es pits).length ≤ n := by
  induction es with
  | nil => simp [lookE]
  | cons e es ih =>
    rw [lookE]; split
    · exact h e (by simp)
    · exact ih fun x hx => h x (by simp [hx])
theorem lookE_ok {r : Rul} {es : List Ent} {pits : List Int} (h : ∀ x ∈ es, okE r x = true) : lookE es pits = [] ∨ ∃ x ∈ es, x.pits = pits ∧ lookE es pits = x.choices := by
  induction es with
  | nil => exact .inl rfl
  | cons e es ih =>
    rw [lookE]; split
    · rename_i he; exact .inr ⟨e, by simp, he, rfl⟩
    · rcases ih fun x hx => h x (by simp [hx]) with h1 | ⟨x, h1, h2⟩
      · exact .inl h1
      · exact .inr ⟨x, by simp [h1], h2⟩
theorem okB_all {b : Boo} (h : okB b = true) : ∀ x ∈ b.entries, okE b.rules x = true := fun x hx => by
  obtain ⟨i, hi⟩ := List.mem_iff_getElem?.1 hx
  have hil := (List.getElem?_eq_some_iff.1 hi).1
  have := okB_ent h hil
  rwa [show ent b.entries i = x by simp [ent, List.getD, hi]] at this
theorem okB_sort {b : Boo} (h : okB b = true) : SortE b.entries := sortE_of (okB_parts h).2.2
def ChoB (l : List Cho) : Prop := ∀ x ∈ l, 1 ≤ x.games ∧ x.games ≤ 1000000 ∧ 0 ≤ x.score ∧ x.score ≤ 2000000
theorem okCs_b {r : Rul} {p : Pos} {cs : List Cho} (h : okCs r p cs = true) : ChoB cs := fun x hx => by
  obtain ⟨i, hi⟩ := List.mem_iff_getElem?.1 hx
  have hil := (List.getElem?_eq_some_iff.1 hi).1
  have := all_at h hil
  unfold chAt at this
  simp only [Bool.and_eq_true] at this
  rw [show cho cs i = x by simp [cho, List.getD, hi]] at this
  have h1 := betw_iff.1 this.1.2
  have h2 := betw_iff.1 this.2
  omega
theorem lookE_b {b : Boo} (h : okB b = true) (pits : List Int) : ChoB (lookE b.entries pits) := by
  rcases lookE_ok (pits := pits) (okB_all h) with h1 | ⟨x, h1, _, h2⟩
  · rw [h1]; exact fun _ h => by simp at h
  · rw [h2]; exact okCs_b (okE_parts (okB_all h x h1)).2.2
def better (c t : Cho) : Bool := decide (t.score * c.games < c.score * t.games) || (decide (c.score * t.games = t.score * c.games) && decide (t.games < c.games))
theorem better_self (c : Cho) : better c c = false := by unfold better; simp
def cbF (b : Cho) : List Cho → Cho
  | [] => b
  | c :: l => cbF (if better c b = true then c else b) l
def cbest (l : List Cho) : Cho := cbF (cho l 0) l
theorem cbF_yes {l : List Cho} {b : Cho} {k : Nat} {X : Cho} (h : cbF b (l.drop k) = X) (hk : k < l.length) (hb : better (cho l k) b = true) : cbF (cho l k) (l.drop (k + 1)) = X := by
  rw [drop_some (cho_get hk), cbF, if_pos hb] at h; exact h
theorem cbF_no {l : List Cho} {b : Cho} {k : Nat} {X : Cho} (h : cbF b (l.drop k) = X) (hk : k < l.length) (hb : better (cho l k) b = false) : cbF b (l.drop (k + 1)) = X := by
  rw [drop_some (cho_get hk), cbF, if_neg (by simp [hb])] at h; exact h
theorem cbF_end {l : List Cho} {b : Cho} {k : Nat} {X : Cho} (h : cbF b (l.drop k) = X) (hk : l.length ≤ k) : X = b := by
  rw [List.drop_eq_nil_of_le hk] at h; exact h.symm
theorem cbest_one {l : List Cho} (h : 0 < l.length) : cbF (cho l 0) (l.drop 1) = cbest l := by
  unfold cbest
  have : l = cho l 0 :: l.drop 1 := by
    have := drop_some (cho_get h); simpa using this
  conv => rhs; rw [this]
  rw [cbF]
  have e : cho (cho l 0 :: List.drop 1 l) 0 = cho l 0 := rfl
  rw [e, better_self]; rfl
theorem mulC_bd {a b : Int} (h1 : 0 ≤ a) (h2 : a ≤ 2000000) (h3 : 1 ≤ b) (h4 : b ≤ 1000000) : 0 ≤ a * b ∧ a * b ≤ 2000000000000 := by
  constructor
  · exact Int.mul_nonneg h1 (by omega)
  · have := Int.mul_le_mul h2 h4 (by omega) (by omega); omega
theorem has_len {b : Boo} {pits : List Int} (h : okB b = true) (hh : hasE b.entries pits = true) : 0 < (lookE b.entries pits).length := by
  rw [hasE_look hh]
  exact (okE_parts (okB_ent h (hasE_lt hh))).2.1
end Go.Proofs.YtcmfnlleikcpnaaGreat.M

namespace Go.Proofs.YtcmfnlleikcpnaaGreat.M
def okV (r : Rul) (p : Pos) : Prop := okP r p = true ∨ (p.player = 0 ∧ p.pits.length ≤ 4194304 ∧ p.stores.length ≤ 4194304)
theorem okV_len {r : Rul} {p : Pos} (h : okV r p) : p.pits.length ≤ 4194304 ∧ p.stores.length ≤ 4194304 := by
  rcases h with h | h
  · have := okP_bd h; omega
  · exact h.2
theorem okV_pl {r : Rul} {p : Pos} (h : okV r p) : 0 ≤ p.player ∧ p.player ≤ 1 := by
  rcases h with h | h
  · have := okP_bd h; omega
  · omega
theorem okV_turn {r : Rul} {p : Pos} (h : okV r p) (h0 : ¬ p.player = 0) : okP r p = true := by
  rcases h with h | h
  · exact h
  · exact absurd h.1 h0
theorem viewP_lenV {r : Rul} {p : Pos} (h : okV r p) : (viewP r p).pits.length ≤ 4194304 ∧ (viewP r p).stores.length ≤ 4194304 := by
  rcases h with h | h
  · exact viewP_len h
  · rw [viewP_0 h.1]; exact h.2
theorem okV_next (r : Rul) (p : Pos) (m : Int) : okV r (make r p m).1.next := by
  by_cases h : (make r p m).2 = 0
  · exact Or.inl (make_ok h).2.2.2.1
  · rw [make_zero h]; exact Or.inr ⟨rfl, by decide, by decide⟩
abbrev lkB (b : Boo) (q : Pos) : List Cho := lookE b.entries (viewP b.rules q).pits
def bookL (b : Boo) : Nat → Pos → List Int
  | 0, _ => []
  | n + 1, q => if (lkB b q).length = 0 then [] else (cbest (lkB b q)).move :: bookL b n (make b.rules q (cbest (lkB b q)).move).1.next
theorem bookL_len (b : Boo) : ∀ (n : Nat) (q : Pos), (bookL b n q).length ≤ n
  | 0, _ => by simp [bookL]
  | n + 1, q => by
    unfold bookL; split
    · simp
    · have := bookL_len b n (make b.rules q (cbest (lkB b q)).move).1.next
      rw [List.length_cons]; omega
theorem bookL_step {b : Boo} {q : Pos} {out X : List Int} {n : Nat} (h : out ++ bookL b (n - out.length) q = X) (hn : out.length < n) (h0 : ¬ (lkB b q).length = 0) :
    (out ++ [(cbest (lkB b q)).move]) ++ bookL b (n - (out ++ [(cbest (lkB b q)).move]).length) (make b.rules q (cbest (lkB b q)).move).1.next = X := by
  rw [← h, List.append_assoc]
  conv => rhs; rw [show n - out.length = (n - (out ++ [(cbest (lkB b q)).move]).length) + 1 by rw [List.length_append, List.length_singleton]; omega]
  rw [bookL, if_neg h0]; rfl
theorem bookL_stop {b : Boo} {q : Pos} {out X : List Int} {n : Nat} (h : out ++ bookL b (n - out.length) q = X) (h0 : (lkB b q).length = 0) : X = out := by
  rw [← h]
  cases n - out.length with
  | zero => simp [bookL]
  | succ k => rw [bookL, if_pos h0, List.append_nil]
theorem bookL_end {b : Boo} {q : Pos} {out X : List Int} {n : Nat} (h : out ++ bookL b (n - out.length) q = X) (h0 : n ≤ out.length) : X = out := by
  rw [← h, show n - out.length = 0 by omega, bookL, List.append_nil]
def blR (b : Boo) (p : Pos) (n : Int) : List Int := if okB b = true ∧ okP b.rules p = true then (if betw n 0 20 = true then bookL b n.toNat p else []) else []
def blC (b : Boo) (p : Pos) (n : Int) : Int := if okB b = true ∧ okP b.rules p = true then (if betw n 0 20 = true then 0 else 2) else 1
theorem bl_no {b : Boo} {p : Pos} {n : Int} (h : ¬ (okB b = true ∧ okP b.rules p = true)) : blR b p n = [] ∧ blC b p n = 1 := by unfold blR blC; rw [if_neg h, if_neg h]; exact ⟨rfl, rfl⟩
theorem bl_2 {b : Boo} {p : Pos} {n : Int} (h : okB b = true ∧ okP b.rules p = true) (h2 : betw n 0 20 = false) : blR b p n = [] ∧ blC b p n = 2 := by unfold blR blC; rw [if_pos h, if_pos h, h2]; exact ⟨rfl, rfl⟩
theorem bl_0 {b : Boo} {p : Pos} {n : Int} (h : okB b = true ∧ okP b.rules p = true) (h2 : betw n 0 20 = true) : blR b p n = bookL b n.toNat p ∧ blC b p n = 0 := by unfold blR blC; rw [if_pos h, if_pos h, h2]; exact ⟨rfl, rfl⟩
theorem blR_len (b : Boo) (p : Pos) (n : Int) : (blR b p n).length ≤ 20 := by
  unfold blR; split
  · split
    · rename_i h; have := bookL_len b n.toNat p; simp [betw] at h; omega
    · simp
  · simp
end Go.Proofs.YtcmfnlleikcpnaaGreat.M

namespace Go.Proofs.YtcmfnlleikcpnaaGreat
open Go.RowKit
def RX (w : World) (R : Value → Prop) (e : Ending) (w' : World) : Prop := ∃ v, e = .returned v ∧ R v ∧ Ext w w'
def RetX (P : Program) (f : FuncId) (args : List Value) (w : World) (R : Value → Prop) : Prop := Calls P f args.toArray w (RX w R)
section
variable {P : Program} {n lo : Nat} {B : List Nat} {Q : Exit → Act → World → Prop} {cs : List Code} {K : Act → World → Prop} {ops : Array Oper} {rest : List Oper} {l : Fr} {os os' os1 : List Own} {u : World} {ty : TypeId} {pos : String} {af : Array Edge} {gd : Option (Nat × Bool)} {dst : Option Tmp} {v : Value} {d : Nat}
theorem e_callX {f : FuncId} {xs : List Operand} {ts : Array TypeId} {vs : List Value} {R : World → Value → Prop} {R' : Value → Prop} (hf : goodF P f = true) (hx : opds l xs = some vs) (hc : ∀ w, St lo B u w os → RetX P f vs w (R w)) (hk : ∀ w v, St lo B u w os → R w v → R' v) :
    OpE P n lo B l os u ⟨dst, .call { callee := .value (.func f), args := xs.toArray, argTypes := ts }, ty, pos, af, gd⟩ true (fun v' os' u' => R' v' ∧ os' = os ∧ u = u') := fun a w ha hw K Q hq => by
  unfold Oper.wp
  rw [run_call hf ha hx, Oper.upon_enter]
  refine Calls.mono (hc w hw) fun e w' h => ?_
  obtain ⟨v, rfl, hR, hxt⟩ := h
  exact hq v _ u w' ⟨hk w v hw hR, rfl, rfl⟩ (Up.refl lo u) (hw.call hxt) (fun _ => hxt)
theorem zxc {f : FuncId} {xs : List Operand} {ts : Array TypeId} {vs : List Value} {R : World → Value → Prop} (R' : Value → Prop) [hf : FnI P f] (hx : opds l xs = some vs) (hc : ∀ w, St lo B u w os → RetX P f vs w (R w)) (hk : ∀ w v, St lo B u w os → R w v → R' v)
    (k : ∀ v, R' v → JL P n lo B K ops rest ((d, v) :: l) os u) (hn : Nat.blt d n = true := by rfl) :
    JL P n lo B K ops (⟨some d, .call { callee := .value (.func f), args := xs.toArray, argTypes := ts }, ty, pos, af, none⟩ :: rest) l os u := JL.e (e_callX hf.h hx hc hk) (by rintro v _ _ ⟨h, rfl, rfl⟩ _; exact k v h) rfl rfl hn
theorem zX {fn : Func} {R : Value → Prop} {w₀ : World} {rs : List ResultVar} {vs : List Value} (x : Up w₀.heap.size w₀ u) (h : R v) (hq : RetQ P fn (RX w₀ R) Q := by exact rq_) (hr : fn.results = rs.toArray := by rfl) (hv : ResOk P n w₀.heap.size [] l os u rs vs := by exact rs_) (ho : OutV vs v := by exact ov_) : Js P n w₀.heap.size [] Q (.ret :: cs) l os u :=
  Js.ret hr hq.eq hv fun w hw => by rw [ho.eq]; exact ⟨v, rfl, h, hw.ext x⟩
end
def EltAt (w : World) (sz : Nat) (A : Option Addr) (n c k : Nat) (vs : List Value) : Prop := ∃ b o, elemA sz (.slice A n c) k = some ⟨b, o, none⟩ ∧ RowAt w b o vs
theorem alias_ent {lo : Nat} {B : List Nat} {os : List Own} {u w : World} {e e' c k : Nat} {A : Option Addr} {es : List M.Ent} {x y : Value} (hw : St lo B u w os) (h : (Ty.sl e 2 es.length (lBookEntry es)).ok u (.slice A es.length c)) (hk : k < es.length) (hx : EltAt w 2 A es.length c k [y, x]) :
    ∃ A' c', x = .slice A' (M.ent es k).choices.length c' ∧ (Ty.sl e' 3 (M.ent es k).choices.length (lChoice (M.ent es k).choices)).ok u (.slice A' (M.ent es k).choices.length c') ∧ (M.ent es k).choices.length ≤ c' ∧ c' ≤ 9223372036854775807 := by
  obtain ⟨b, o, h1, h2⟩ := hx
  obtain ⟨b', o', A0, c0, A1, c1, h3, h4, h5, h6, _, _, h8, h9⟩ := elem_BookEntry h (M.ent_get hk)
  rw [h3] at h1
  injection h1 with h1
  injection h1 with h1 h10 _
  subst h1; subst h10
  have ha := (h4.vis hw.vis) 1 _ rfl
  have hb := h2 1 x rfl
  exact ⟨A1, c1, hb.uniq ha, h6, h8, h9⟩
end Go.Proofs.YtcmfnlleikcpnaaGreat


/- Plain mathematics of texts: positions, puzzles, hints. -/
import Derived.Test.YtjklnidbndopiaaGreatDoorZaA2
import Derived.MapKept
import Derived.Test.YtjklnidbndopiaaGreatDoorProg
import Derived.ProofKit
import Derived.SizedLaws
import Derived.Test.YtjklnidbndopiaaGreatDoorZaA1
import Derived.Laws.IdiomStrings
import Derived.Laws.IdiomCopy
set_option linter.unusedSimpArgs false
set_option linter.unusedVariables false
namespace Go.Proofs.YtjklnidbndopiaaGreatDoor.M
def joinN (l : List Int) : Nat → List UInt8
  | 0 => []
  | k + 1 => (if 0 < k then joinN l k ++ [44] else joinN l k) ++ dec (nth l k)
def joinT (l : List Int) : List UInt8 := joinN l l.length
theorem joinN_len (l : List Int) : ∀ k : Nat, (joinN l k).length ≤ 22 * k
  | 0 => by simp [joinN]
  | k + 1 => by
    have h1 := joinN_len l k; have h2 := dec_len (nth l k)
    rw [joinN]; split <;> simp only [List.length_append, List.length_cons, List.length_nil] <;> omega
theorem joinN_p {l : List Int} {o : List UInt8} {k : Nat} (h : o = joinN l k) (hk : 0 < k) : (o ++ [44]) ++ dec (nth l k) = joinN l (k + 1) := by rw [joinN, if_pos hk, h]
theorem joinN_z {l : List Int} {o : List UInt8} {k : Nat} (h : o = joinN l k) (hk : ¬ 0 < k) : o ++ dec (nth l k) = joinN l (k + 1) := by rw [joinN, if_neg hk, h]
theorem joinN_big {l : List Int} {o : List UInt8} {k : Nat} (h : o = joinN l k) (hk : k ≤ 4194304) : o.length ≤ 92274688 := by rw [h]; have := joinN_len l k; omega
theorem joinN_e {l : List Int} {o : List UInt8} {k : Nat} (h : o = joinN l k) (hk : l.length ≤ k) (hk2 : k ≤ l.length) : o = joinT l := by rw [h, joinT, Nat.le_antisymm hk hk2]
theorem joinT_len (l : List Int) : (joinT l).length ≤ 22 * l.length := joinN_len l _
def Rng (l : List Int) : Prop := ∀ a ∈ l, -9223372036854775808 ≤ a ∧ a ≤ 9223372036854775807
theorem Rng.nth {l : List Int} (h : Rng l) (k : Nat) : -9223372036854775808 ≤ nth l k ∧ M.nth l k ≤ 9223372036854775807 := by
  by_cases hk : k < l.length
  · exact h _ (nth_mem hk)
  · simp [M.nth, List.getD, List.getElem?_eq_none (Nat.le_of_not_lt hk)]
theorem Rng.ok {l : List Int} (h : allOk l = true) : Rng l := fun a ha => by
  unfold allOk at h; rw [List.all_eq_true] at h
  have := betw_iff.1 (h _ ha); omega
theorem Rng.take {l : List Int} (h : Rng l) (k : Nat) : Rng (l.take k) := fun a ha => h a (List.mem_of_mem_take ha)
theorem Rng.drop {l : List Int} (h : Rng l) (k : Nat) : Rng (l.drop k) := fun a ha => h a (List.mem_of_mem_drop ha)
def capNames : List (List UInt8) := [[110, 111, 110, 101], [116, 119, 111, 45, 116, 104, 114, 101, 101], [99, 114, 111, 115, 115], [101, 118, 101, 110]]
def slamNames : List (List UInt8) := [[116, 97, 107, 101], [102, 111, 114, 98, 105, 100], [110, 111, 116, 104, 105, 110, 103]]
def fNames : List (List UInt8) := [[115, 116, 111, 114, 101, 115], [115, 107, 105, 112], [114, 101, 108, 97, 121], [102, 101, 101, 100], [97, 103, 97, 105, 110]]
def fieldNames : List (List UInt8) := [[112, 105, 116, 115], [115, 101, 101, 100, 115], [115, 116, 111, 114, 101, 115], [115, 107, 105, 112], [114, 101, 108, 97, 121], [102, 101, 101, 100], [97, 103, 97, 105, 110], [99, 97, 112, 116, 117, 114, 101], [115, 108, 97, 109]]
def capName (k : Int) : List UInt8 := if k = 0 then [110, 111, 110, 101] else if k = 1 then [116, 119, 111, 45, 116, 104, 114, 101, 101] else if k = 2 then [99, 114, 111, 115, 115] else if k = 3 then [101, 118, 101, 110] else []
def slamName (k : Int) : List UInt8 := if k = 0 then [116, 97, 107, 101] else if k = 1 then [102, 111, 114, 98, 105, 100] else if k = 2 then [110, 111, 116, 104, 105, 110, 103] else []
theorem okR_all {r : Rul} (h : okR r = true) : 2 ≤ r.pits ∧ r.pits ≤ 8 ∧ 1 ≤ r.seeds ∧ r.seeds ≤ 6 ∧ 0 ≤ r.capture ∧ r.capture ≤ 3 ∧ 0 ≤ r.slam ∧ r.slam ≤ 2 := by
  simp only [okR, Bool.and_eq_true, betw_iff] at h; omega
theorem capName_len (k : Int) : (capName k).length ≤ 9 := by unfold capName; (repeat' split) <;> simp
theorem slamName_len (k : Int) : (slamName k).length ≤ 7 := by unfold slamName; (repeat' split) <;> simp
theorem capName_get {k : Int} {y : List UInt8} (h0 : 0 ≤ k) (h : capNames[k.toNat]? = some y) : y = capName k := by
  have hl : k.toNat < 4 := (List.getElem?_eq_some_iff.1 h).1
  have : k = 0 ∨ k = 1 ∨ k = 2 ∨ k = 3 := by omega
  rcases this with rfl | rfl | rfl | rfl <;> exact (Option.some.inj h).symm
theorem slamName_get {k : Int} {y : List UInt8} (h0 : 0 ≤ k) (h : slamNames[k.toNat]? = some y) : y = slamName k := by
  have hl : k.toNat < 3 := (List.getElem?_eq_some_iff.1 h).1
  have : k = 0 ∨ k = 1 ∨ k = 2 := by omega
  rcases this with rfl | rfl | rfl <;> exact (Option.some.inj h).symm
def flagIx (y : List UInt8) : Nat := if y = [115, 116, 111, 114, 101, 115] then 2 else if y = [115, 107, 105, 112] then 3 else if y = [114, 101, 108, 97, 121] then 4 else if y = [102, 101, 101, 100] then 5 else if y = [97, 103, 97, 105, 110] then 6 else 99
def flagB (r : Rul) (y : List UInt8) : Bool := if y = [115, 116, 111, 114, 101, 115] then r.stores else if y = [115, 107, 105, 112] then r.skip else if y = [114, 101, 108, 97, 121] then r.relay else if y = [102, 101, 101, 100] then r.feed else if y = [97, 103, 97, 105, 110] then r.again else false
theorem fNames_len {y : List UInt8} (h : y ∈ fNames) : y.length ≤ 6 := by
  have : ∀ x ∈ fNames, x.length ≤ 6 := by decide
  exact this y h
def rulesN (r : Rul) : Nat → List UInt8
  | 0 => [112, 105, 116, 115, 61] ++ dec r.pits ++ [32, 115, 101, 101, 100, 115, 61] ++ dec r.seeds ++ [32, 99, 97, 112, 116, 117, 114, 101, 61] ++ capName r.capture ++ [32, 115, 108, 97, 109, 61] ++ slamName r.slam
  | k + 1 => if flagB r (fNames.getD k []) = true then rulesN r k ++ ([32] ++ fNames.getD k []) else rulesN r k
def rulesT (r : Rul) : List UInt8 := rulesN r 5
def rulesTR (r : Rul) : List UInt8 := if okR r = true then rulesT r else []
theorem rulesTR_yes {r : Rul} (h : okR r = true) : rulesTR r = rulesT r := by unfold rulesTR; rw [if_pos h]
theorem rulesTR_no {r : Rul} (h : okR r = false) : rulesTR r = [] := by unfold rulesTR; rw [if_neg (by simp [h])]
theorem rulesN_len (r : Rul) : ∀ k : Nat, k ≤ 5 → (rulesN r k).length ≤ 120 + 7 * k
  | 0, _ => by
    have a := dec_len r.pits; have c := dec_len r.seeds; have d := capName_len r.capture; have e := slamName_len r.slam
    rw [rulesN]; simp only [List.length_append, List.length_cons, List.length_nil]; omega
  | k + 1, hk => by
    have h1 := rulesN_len r k (by omega)
    have h2 : (fNames.getD k []).length ≤ 6 := by
      have : k = 0 ∨ k = 1 ∨ k = 2 ∨ k = 3 ∨ k = 4 := by omega
      rcases this with rfl | rfl | rfl | rfl | rfl <;> decide
    rw [rulesN]; split <;> first | omega | (simp only [List.length_append, List.length_cons, List.length_nil]; omega)
theorem rulesN_t {r : Rul} {out y : List UInt8} {k : Nat} (h : out = rulesN r k) (hy : fNames[k]? = some y) (hb : flagB r y = true) : out ++ ([32] ++ y) = rulesN r (k + 1) := by
  have e : fNames.getD k [] = y := by rw [List.getD_eq_getElem?_getD, hy]; rfl
  rw [rulesN, e, if_pos hb, h]
theorem rulesN_f {r : Rul} {out y : List UInt8} {k : Nat} (h : out = rulesN r k) (hy : fNames[k]? = some y) (hb : flagB r y = false) : out = rulesN r (k + 1) := by
  have e : fNames.getD k [] = y := by rw [List.getD_eq_getElem?_getD, hy]; rfl
  rw [rulesN, e, if_neg (by simp [hb]), h]
theorem rulesN_e {r : Rul} {out : List UInt8} {k : Nat} (h : out = rulesN r k) (h1 : 5 ≤ k) (h2 : k ≤ 5) : out = rulesT r := by rw [h, rulesT, Nat.le_antisymm h2 h1]
theorem rulesT_len (r : Rul) : (rulesT r).length ≤ 155 := rulesN_len r 5 (Nat.le_refl _)
def bit (x : Bool) : Int := if x = true then 1 else 0
def fieldsL (r : Rul) : List Int := [r.pits, r.seeds, bit r.stores, bit r.skip, bit r.relay, bit r.feed, bit r.again, r.capture, r.slam]
theorem fields_at {r : Rul} {k : Nat} {y : List UInt8} (h1 : 2 ≤ k) (h2 : k ≤ 6) (hy : fieldNames[k]? = some y) : fNames[k - 2]? = some y ∧ nth (fieldsL r) k = bit (flagB r y) := by
  have : k = 2 ∨ k = 3 ∨ k = 4 ∨ k = 5 ∨ k = 6 := by omega
  rcases this with rfl | rfl | rfl | rfl | rfl <;> (obtain rfl := Option.some.inj hy; exact ⟨rfl, rfl⟩)
theorem bit_1 {x : Bool} (h : bit x = 1) : x = true := by cases x <;> simp_all [bit]
theorem bit_0 {x : Bool} (h : ¬ bit x = 1) : x = false := by cases x <;> simp_all [bit]
theorem rulesN_s {r : Rul} {out y : List UInt8} {k : Nat} (h : out = rulesN r (k - 2)) (h1 : 2 ≤ k) (h2 : k ≤ 6) (hy : fieldNames[k]? = some y) (hb : nth (fieldsL r) k = 1) : out ++ ([32] ++ y) = rulesN r (k + 1 - 2) := by
  obtain ⟨a, c⟩ := fields_at (r := r) h1 h2 hy
  have := rulesN_t h a (bit_1 (c ▸ hb))
  rwa [show k - 2 + 1 = k + 1 - 2 by omega] at this
theorem rulesN_n {r : Rul} {out : List UInt8} {k : Nat} (h : out = rulesN r (k - 2)) (h1 : 2 ≤ k) (h2 : k ≤ 6) (hb : ¬ nth (fieldsL r) k = 1) : out = rulesN r (k + 1 - 2) := by
  obtain ⟨y, hy⟩ : ∃ y, fieldNames[k]? = some y := ⟨_, List.getElem?_eq_getElem (by show k < 9; omega)⟩
  obtain ⟨a, c⟩ := fields_at (r := r) h1 h2 hy
  have := rulesN_f h a (bit_0 (c ▸ hb))
  rwa [show k - 2 + 1 = k + 1 - 2 by omega] at this
def recLine (n m g : Int) : List UInt8 := dec n ++ [46, 32] ++ dec m ++ [43] ++ dec g
theorem recLine_len (n m g : Int) : (recLine n m g).length ≤ 66 := by
  have a := dec_len n; have c := dec_len m; have d := dec_len g
  unfold recLine; simp only [List.length_append, List.length_cons, List.length_nil]; omega
def noteT (pl mv gn : Int) (ag : Bool) : List UInt8 :=
  if ag = true then (if 0 < gn then ([112, 108, 97, 121, 101, 114, 32] ++ dec pl ++ [32, 112, 108, 97, 121, 115, 32] ++ dec mv) ++ ([44, 32, 103, 97, 105, 110, 115, 32] ++ dec gn) else ([112, 108, 97, 121, 101, 114, 32] ++ dec pl ++ [32, 112, 108, 97, 121, 115, 32] ++ dec mv)) ++ [44, 32, 109, 111, 118, 101, 115, 32, 97, 103, 97, 105, 110]
  else (if 0 < gn then ([112, 108, 97, 121, 101, 114, 32] ++ dec pl ++ [32, 112, 108, 97, 121, 115, 32] ++ dec mv) ++ ([44, 32, 103, 97, 105, 110, 115, 32] ++ dec gn) else ([112, 108, 97, 121, 101, 114, 32] ++ dec pl ++ [32, 112, 108, 97, 121, 115, 32] ++ dec mv))
def notes (l : List (Pos × Res)) : List (List UInt8) := l.map fun x => noteT x.1.player x.2.move x.2.gain x.2.again
@[simp] theorem notes_length (l : List (Pos × Res)) : (notes l).length = l.length := by simp [notes]
def markT (k : Int) : List UInt8 := if k ≤ 0 then [109, 48] else [109] ++ dec k
def upT (k : Int) (n : Nat) : List (List UInt8) := (List.range n).map fun (i : Nat) => markT (k + (i : Int))
@[simp] theorem upT_length (k : Int) (n : Nat) : (upT k n).length = n := by simp [upT]
def bat (a : List UInt8) (i : Nat) : Int := ((a.getD i 0).toNat : Int)
def split (by_ : UInt8) : List UInt8 → List (List UInt8)
  | [] => [[]]
  | b :: l => if b = by_ then [] :: split by_ l else match split by_ l with
    | [] => [[b]]
    | w :: ws => (b :: w) :: ws
theorem split_ne (by_ : UInt8) (l : List UInt8) : split by_ l ≠ [] := by
  cases l with
  | nil => simp [split]
  | cons b l =>
    rw [split]; split
    · simp
    · split <;> simp
theorem split_app (by_ : UInt8) : ∀ (p q : List UInt8), by_ ∉ p → split by_ (p ++ by_ :: q) = p :: split by_ q
  | [], q, _ => by rw [List.nil_append, split, if_pos rfl]
  | b :: p, q, h => by
    have hb : b ≠ by_ := fun e => h (by simp [e])
    have := split_app by_ p q (fun hm => h (by simp [hm]))
    rw [List.cons_append, split, if_neg hb, this]
theorem split_last (by_ : UInt8) : ∀ (p : List UInt8), by_ ∉ p → split by_ p = [p]
  | [], _ => rfl
  | b :: p, h => by
    have hb : b ≠ by_ := fun e => h (by simp [e])
    have := split_last by_ p (fun hm => h (by simp [hm]))
    rw [split, if_neg hb, this]
structure SplI (b : UInt8) (s : List UInt8) (f k : Nat) (out : List (List UInt8)) : Prop where
  h : out ++ split b (s.drop f) = split b s
  n : b ∉ (s.drop f).take (k - f)
  l : f ≤ k
theorem SplI.zero (b : UInt8) (s : List UInt8) : SplI b s 0 0 [] := ⟨rfl, by simp, Nat.le_refl _⟩
theorem bat_get {s : List UInt8} {k : Nat} (h : k < s.length) : bat s k = (s[k].toNat : Int) := by simp [bat, List.getD, h]
theorem drop_cut {s : List UInt8} {f k : Nat} (h : k < s.length) (hl : f ≤ k) : s.drop f = (s.drop f).take (k - f) ++ s[k] :: s.drop (k + 1) := by
  have e : (s.drop f).drop (k - f) = s[k] :: s.drop (k + 1) := by rw [List.drop_drop, show f + (k - f) = k by omega]; exact List.drop_eq_getElem_cons h
  rw [← e, List.take_append_drop]
theorem u8_of {b : Int} {x : UInt8} (h : (x.toNat : Int) = b) : x = u8 b := by
  subst h; unfold u8; simp
theorem SplI.hit {b : Int} {s : List UInt8} {f k : Nat} {out : List (List UInt8)} (h : SplI (u8 b) s f k out) (hk : k < s.length) (hb : bat s k = b) : SplI (u8 b) s (k + 1) (k + 1) (out ++ [(s.drop f).take (k - f)]) := by
  have hx : s[k] = u8 b := u8_of (by rw [← hb, bat_get hk])
  refine ⟨?_, by simp, Nat.le_refl _⟩
  have e := drop_cut hk h.l
  rw [hx] at e
  rw [← h.h, e, split_app _ _ _ h.n, ← e]
  simp
theorem SplI.miss {b : Int} {s : List UInt8} {f k : Nat} {out : List (List UInt8)} (h : SplI (u8 b) s f k out) (hk : k < s.length) (h0 : 0 ≤ b) (h1 : b ≤ 255) (hb : bat s k ≠ b) : SplI (u8 b) s f (k + 1) out := by
  refine ⟨h.h, fun hm => ?_, by have := h.l; omega⟩
  have hl := h.l
  have e : (s.drop f).take (k + 1 - f) = (s.drop f).take (k - f) ++ [s[k]] := by
    rw [show k + 1 - f = (k - f) + 1 by omega, List.take_add_one, List.getElem?_drop, show f + (k - f) = k by omega, List.getElem?_eq_getElem hk]; rfl
  rw [e] at hm
  rcases List.mem_append.1 hm with hm | hm
  · exact h.n hm
  · simp only [List.mem_singleton] at hm
    apply hb
    rw [bat_get hk, ← hm]; exact u8_val h0 h1
theorem SplI.done {b : UInt8} {s : List UInt8} {f k : Nat} {out : List (List UInt8)} (h : SplI b s f k out) (hk : s.length ≤ k) : out ++ [s.drop f] = split b s := by
  have hn := h.n
  rw [List.take_of_length_le (by rw [List.length_drop]; omega)] at hn
  rw [← h.h, split_last _ _ hn]
theorem SplI.len {b : UInt8} {s : List UInt8} {f k : Nat} {out : List (List UInt8)} (h : SplI b s f k out) : out.length ≤ (split b s).length := by rw [← h.h, List.length_append]; omega
theorem split_len (b : UInt8) : ∀ s : List UInt8, (split b s).length ≤ s.length + 1
  | [] => by simp [split]
  | x :: s => by
    have := split_len b s
    rw [split]; split
    · simp; omega
    · split
      · simp
      · rename_i h; rw [h] at this; simp at this ⊢; omega
def isDig (c : Int) : Bool := decide (48 ≤ c) && decide (c ≤ 57)
def numT (s : List UInt8) : List UInt8 := if s ≠ [] ∧ bat s 0 = 45 then s.drop 1 else s
def numN (t : List UInt8) : Nat → Int
  | 0 => 0
  | k + 1 => 10 * numN t k + (bat t k - 48)
def Digs (t : List UInt8) (k : Nat) : Prop := ∀ i : Nat, i < k → isDig (bat t i) = true
theorem Digs.zero (t : List UInt8) : Digs t 0 := fun i h => absurd h (by omega)
theorem Digs.step {t : List UInt8} {k : Nat} (h : Digs t k) (hk : isDig (bat t k) = true) : Digs t (k + 1) := fun i hi => by
  by_cases e : i = k
  · rw [e]; exact hk
  · exact h i (by omega)
def numS (s : List UInt8) : Int := if (numT s).length < s.length then -numN (numT s) (numT s).length else numN (numT s) (numT s).length
def digs (t : List UInt8) : Bool := (List.range t.length).all fun i => isDig (bat t i)
def num (s : List UInt8) : Int × Bool :=
  if (numT s).length < 1 ∨ 18 < (numT s).length then (0, false) else if digs (numT s) = false then (0, false) else if dec (numS s) = s then (numS s, true) else (0, false)
def hit (s sep : List UInt8) (k : Nat) : Bool := decide (k + sep.length ≤ s.length) && decide ((s.drop k).take sep.length = sep)
def cutS (s sep : List UInt8) : List UInt8 × List UInt8 × Bool :=
  match (List.range (s.length + 1)).find? (hit s sep) with
  | some k => (s.take k, s.drop (k + sep.length), true)
  | none => (s, [], false)
theorem hit_one {s : List UInt8} {b : UInt8} {k : Nat} : hit s [b] k = true ↔ s[k]? = some b := by
  unfold hit
  simp only [List.length_cons, List.length_nil, Nat.zero_add, Bool.and_eq_true, decide_eq_true_eq]
  constructor
  · rintro ⟨h1, h2⟩
    have : k < s.length := by omega
    rw [List.drop_eq_getElem_cons this] at h2
    simp only [List.take_succ_cons, List.take_zero, List.cons.injEq, and_true] at h2
    rw [List.getElem?_eq_getElem this, h2]
  · intro h
    obtain ⟨hk, h⟩ := List.getElem?_eq_some_iff.1 h
    refine ⟨by omega, ?_⟩
    rw [List.drop_eq_getElem_cons hk]
    simp [h]
theorem cutS_one (b : UInt8) (s : List UInt8) : ((cutS s [b]).2.2 = true ∧ split b s = (cutS s [b]).1 :: split b (cutS s [b]).2.1 ∧ (cutS s [b]).2.1.length < s.length) ∨ ((cutS s [b]).2.2 = false ∧ split b s = [(cutS s [b]).1]) := by
  unfold cutS
  cases hf : (List.range (s.length + 1)).find? (hit s [b]) with
  | some k =>
    left
    rw [List.find?_range_eq_some] at hf
    obtain ⟨h1, _, h3⟩ := hf
    rw [hit_one] at h1
    obtain ⟨hk, h⟩ := List.getElem?_eq_some_iff.1 h1
    refine ⟨rfl, ?_, by simp; omega⟩
    have e : s = s.take k ++ b :: s.drop (k + 1) := by
      rw [← h, ← List.drop_eq_getElem_cons hk, List.take_append_drop]
    have hm : b ∉ s.take k := fun hm => by
      obtain ⟨i, hi, he⟩ := List.mem_iff_getElem.1 hm
      have hik : i < k := by rw [List.length_take] at hi; omega
      have := h3 i hik
      rw [Bool.not_eq_true', ← Bool.not_eq_true, hit_one] at this
      apply this
      rw [List.getElem_take] at he
      rw [List.getElem?_eq_getElem (by omega), he]
    show split b s = s.take k :: split b (s.drop (k + 1))
    conv => lhs; rw [e]
    exact split_app b _ _ hm
  | none =>
    right
    rw [List.find?_eq_none] at hf
    refine ⟨rfl, split_last b s fun hm => ?_⟩
    obtain ⟨i, hi, he⟩ := List.mem_iff_getElem.1 hm
    have := hf i (by simp; omega)
    apply this
    rw [hit_one, List.getElem?_eq_getElem hi, he]
def numsOk (l : List (List UInt8)) : Bool := l.all fun w => (num w).2
def numsV (l : List (List UInt8)) : List Int := l.map fun w => (num w).1
def nums (s : List UInt8) : List Int × Bool := if numsOk (split 44 s) = true then (numsV (split 44 s), true) else ([], false)
theorem nums_yes {s : List UInt8} (h : numsOk (split 44 s) = true) : nums s = (numsV (split 44 s), true) := by unfold nums; rw [if_pos h]
structure NumsI (s cur : List UInt8) (out : List Int) : Prop where
  ok : numsOk (split 44 cur) = numsOk (split 44 s)
  v : out ++ numsV (split 44 cur) = numsV (split 44 s)
theorem NumsI.zero (s : List UInt8) : NumsI s s [] := ⟨rfl, rfl⟩
theorem NumsI.more {s cur : List UInt8} {out : List Int} (h : NumsI s cur out) (hn : (num (cutS cur [44]).1).2 = true) (hc : (cutS cur [44]).2.2 = true) : NumsI s (cutS cur [44]).2.1 (out ++ [(num (cutS cur [44]).1).1]) ∧ (cutS cur [44]).2.1.length < cur.length := by
  rcases cutS_one 44 cur with ⟨_, h2, h3⟩ | ⟨h2, _⟩
  · refine ⟨⟨?_, ?_⟩, h3⟩
    · rw [← h.ok, h2]; simp [numsOk, hn]
    · rw [← h.v, h2]; simp [numsV]
  · rw [hc] at h2; simp at h2
theorem NumsI.last {s cur : List UInt8} {out : List Int} (h : NumsI s cur out) (hn : (num (cutS cur [44]).1).2 = true) (hc : (cutS cur [44]).2.2 = false) : nums s = (out ++ [(num (cutS cur [44]).1).1], true) := by
  rcases cutS_one 44 cur with ⟨h2, _, _⟩ | ⟨_, h2⟩
  · rw [hc] at h2; simp at h2
  · rw [nums_yes (by rw [← h.ok, h2]; simp [numsOk, hn]), ← h.v, h2]; simp [numsV]
theorem NumsI.len {s cur : List UInt8} {out : List Int} (h : NumsI s cur out) : out.length ≤ s.length + 1 := by
  have a := split_len 44 s
  have := congrArg List.length h.v
  rw [List.length_append] at this
  simp only [numsV, List.length_map] at this; omega
def joinW (b : UInt8) : List (List UInt8) → List UInt8
  | [] => []
  | [w] => w
  | w :: v :: ws => w ++ b :: joinW b (v :: ws)
theorem joinW_cons (b : UInt8) (w : List UInt8) {ws : List (List UInt8)} (h : ws ≠ []) : joinW b (w :: ws) = w ++ b :: joinW b ws := by
  cases ws with
  | nil => exact absurd rfl h
  | cons v ws => rfl
theorem joinW_split (b : UInt8) : ∀ s : List UInt8, joinW b (split b s) = s
  | [] => rfl
  | x :: s => by
    have ih := joinW_split b s
    rw [split]
    split
    · rename_i e
      rw [joinW_cons b _ (split_ne b s), ih, e]; rfl
    · split
      · rename_i e; exact absurd e (split_ne b s)
      · rename_i w ws e
        rw [e] at ih
        cases ws with
        | nil => show x :: w = x :: s; rw [show w = s from ih]
        | cons v ws =>
          show x :: (w ++ b :: joinW b (v :: ws)) = x :: s
          rw [show w ++ b :: joinW b (v :: ws) = s from ih]
def idx : List (List UInt8) → List UInt8 → Int
  | [], _ => -1
  | x :: l, s => if x = s then 0 else if idx l s = -1 then -1 else idx l s + 1
theorem idx_bd : ∀ (l : List (List UInt8)) (s : List UInt8), idx l s = -1 ∨ 0 ≤ idx l s ∧ idx l s < l.length
  | [], _ => .inl rfl
  | x :: l, s => by
    have := idx_bd l s
    rw [idx, List.length_cons]
    split
    · exact .inr ⟨by omega, by omega⟩
    · split
      · exact .inl rfl
      · refine .inr ⟨?_, ?_⟩ <;> omega
def Nix (l : List (List UInt8)) (s : List UInt8) (k : Nat) : Prop := ∀ i : Nat, i < k → l[i]? ≠ some s
theorem Nix.zero (l : List (List UInt8)) (s : List UInt8) : Nix l s 0 := fun i h => absurd h (by omega)
theorem Nix.step {l : List (List UInt8)} {s y : List UInt8} {k : Nat} (h : Nix l s k) (hy : l[k]? = some y) (hs : ¬ y = s) : Nix l s (k + 1) := fun i hi => by
  rcases Nat.lt_succ_iff_lt_or_eq.1 hi with h9 | h9
  · exact h i h9
  · subst h9; rw [hy]; intro h8; exact hs (Option.some.inj h8)
theorem Nix.hit : ∀ {l : List (List UInt8)} {s y : List UInt8} {k : Nat}, Nix l s k → l[k]? = some y → y = s → idx l s = (k : Int)
  | [], _, _, _, _, hy, _ => by simp at hy
  | x :: l, s, y, 0, _, hy, hs => by
    simp at hy; rw [idx, if_pos (by rw [hy]; exact hs)]; rfl
  | x :: l, s, y, k + 1, h, hy, hs => by
    have h0 : x ≠ s := fun e => h 0 (by omega) (by simp [e])
    have h1 : idx l s = (k : Int) := Nix.hit (l := l) (fun i hi => by have := h (i + 1) (by omega); simpa using this) (by simpa using hy) hs
    rw [idx, if_neg h0, if_neg (by omega), h1]; omega
theorem Nix.miss : ∀ {l : List (List UInt8)} {s : List UInt8} {k : Nat}, Nix l s k → l.length ≤ k → idx l s = -1
  | [], _, _, _, _ => rfl
  | x :: l, s, 0, _, hk => by simp at hk
  | x :: l, s, k + 1, h, hk => by
    have h0 : x ≠ s := fun e => h 0 (by omega) (by simp [e])
    rw [idx, if_neg h0, if_pos (Nix.miss (l := l) (k := k) (fun i hi => by have := h (i + 1) (by omega); simpa using this) (by simp at hk; omega))]
def wds (s : List UInt8) : List (List UInt8) := (split 32 s).filter (fun w => decide (w ≠ []))
def plsW : Int → List (List UInt8) → List Int
  | _, [] => []
  | a, w :: ws => if w = [] then plsW (a + 1) ws else a :: plsW (a + (w.length : Int) + 1) ws
def pls (s : List UInt8) : List Int := plsW 0 (split 32 s)
theorem plsW_len : ∀ (ws : List (List UInt8)) (a : Int), (plsW a ws).length = (ws.filter (fun w => decide (w ≠ []))).length
  | [], _ => rfl
  | w :: ws, a => by
    rw [plsW]
    by_cases h : w = []
    · rw [if_pos h, plsW_len ws, List.filter_cons_of_neg (by simp [h])]
    · rw [if_neg h, List.length_cons, plsW_len ws, List.filter_cons_of_pos (by simp [h]), List.length_cons]
theorem pls_len (s : List UInt8) : (pls s).length = (wds s).length := plsW_len _ _
theorem wds_len (s : List UInt8) : (wds s).length ≤ s.length + 1 := Nat.le_trans (List.length_filter_le _ _) (split_len 32 s)
structure PrtI (s : List UInt8) (i : Nat) (ws : List (List UInt8)) (ps : List Int) : Prop where
  w : ws ++ wds (s.drop i) = wds s
  p : ps ++ plsW (i : Int) (split 32 (s.drop i)) = pls s
theorem PrtI.zero (s : List UInt8) : PrtI s 0 [] [] := ⟨rfl, rfl⟩
theorem PrtI.len {s : List UInt8} {i : Nat} {ws : List (List UInt8)} {ps : List Int} (h : PrtI s i ws ps) : ws.length ≤ s.length + 1 ∧ ps.length ≤ s.length + 1 := by
  have h1 := congrArg List.length h.w; have h2 := congrArg List.length h.p
  rw [List.length_append] at h1 h2
  have := wds_len s; have := pls_len s
  constructor <;> omega
theorem bat_32 {s : List UInt8} {k : Nat} (hk : k < s.length) : bat s k = 32 ↔ s[k] = 32 := by
  rw [bat_get hk]
  constructor
  · intro h; exact u8_of h
  · intro h; rw [h]; rfl
structure WrdI (s : List UInt8) (i k : Nat) : Prop where
  n : (32 : UInt8) ∉ (s.drop i).take (k - i)
  l : i ≤ k
  u : k ≤ s.length
theorem WrdI.zero {s : List UInt8} {i : Nat} (h : i ≤ s.length) : WrdI s i i := ⟨by simp, Nat.le_refl _, h⟩
theorem WrdI.step {s : List UInt8} {i k : Nat} (h : WrdI s i k) (hk : k < s.length) (hb : ¬ bat s k = 32) : WrdI s i (k + 1) := by
  refine ⟨fun hm => ?_, by have := h.l; omega, hk⟩
  have hl := h.l
  have e : (s.drop i).take (k + 1 - i) = (s.drop i).take (k - i) ++ [s[k]] := by
    rw [show k + 1 - i = (k - i) + 1 by omega, List.take_add_one, List.getElem?_drop, show i + (k - i) = k by omega, List.getElem?_eq_getElem hk]; rfl
  rw [e] at hm
  rcases List.mem_append.1 hm with hm | hm
  · exact h.n hm
  · simp only [List.mem_singleton] at hm
    exact hb ((bat_32 hk).2 hm.symm)
theorem split_take {s : List UInt8} {i k : Nat} (h : WrdI s i k) (hk : k = s.length ∨ k < s.length ∧ bat s k = 32) (hik : i < k) :
    wds (s.drop i) = (s.drop i).take (k - i) :: wds (s.drop k) ∧ plsW (i : Int) (split 32 (s.drop i)) = (i : Int) :: plsW (k : Int) (split 32 (s.drop k)) := by
  have hl := h.l; have hu := h.u
  have hlen : ((s.drop i).take (k - i)).length = k - i := by rw [List.length_take, List.length_drop]; omega
  have hne : (s.drop i).take (k - i) ≠ [] := fun e => by rw [e] at hlen; simp at hlen; omega
  rcases hk with hk | ⟨hk, hb⟩
  · have e : (s.drop i).take (k - i) = s.drop i := List.take_of_length_le (by rw [List.length_drop]; omega)
    have hn := h.n
    rw [e] at hn hne
    have e2 : split 32 (s.drop i) = [s.drop i] := split_last 32 _ hn
    have e3 : s.drop k = [] := List.drop_eq_nil_of_le (by omega)
    rw [e]
    constructor
    · unfold wds; rw [e2, e3, List.filter_cons_of_pos (by simpa using hne)]; rfl
    · rw [e2, e3, plsW, if_neg hne]; rfl
  · have e := drop_cut hk hl
    rw [(bat_32 hk).1 hb] at e
    have e2 : split 32 (s.drop i) = (s.drop i).take (k - i) :: split 32 (s.drop (k + 1)) := by
      conv => lhs; rw [e]
      exact split_app 32 _ _ h.n
    have e3 : split 32 (s.drop k) = [] :: split 32 (s.drop (k + 1)) := by rw [List.drop_eq_getElem_cons hk, (bat_32 hk).1 hb, split, if_pos rfl]
    constructor
    · unfold wds; rw [e2, e3, List.filter_cons_of_pos (by simpa using hne), List.filter_cons_of_neg (by simp)]
    · rw [e2, e3, plsW, if_neg hne, plsW, if_pos rfl, hlen, show (i : Int) + ((k - i : Nat) : Int) + 1 = (k : Int) + 1 by omega]
theorem PrtI.word {s : List UInt8} {i k : Nat} {ws : List (List UInt8)} {ps : List Int} (h : PrtI s i ws ps) (hw : WrdI s i k) (hik : i < k) (hk : k = s.length ∨ k < s.length ∧ bat s k = 32) : PrtI s k (ws ++ [(s.drop i).take (k - i)]) (ps ++ [(i : Int)]) := by
  obtain ⟨a, b⟩ := split_take hw hk hik
  exact ⟨by rw [← h.w, a, List.append_assoc]; rfl, by rw [← h.p, b, List.append_assoc]; rfl⟩
theorem PrtI.done {s : List UInt8} {i : Nat} {ws : List (List UInt8)} {ps : List Int} (h : PrtI s i ws ps) (hi : s.length ≤ i) : ws = wds s ∧ ps = pls s := by
  have e : s.drop i = [] := List.drop_eq_nil_of_le hi
  have h1 := h.w; have h2 := h.p
  rw [e] at h1 h2
  exact ⟨by rw [← h1, show wds [] = [] from rfl, List.append_nil], by rw [← h2, show plsW (i : Int) (split 32 []) = [] from rfl, List.append_nil]⟩
def wrd (w : List UInt8) : Int × Int × Int :=
  if idx fieldNames (cutS w [61]).1 < 0 ∨ (cutS w [61]).2.2 = betw (idx fieldNames (cutS w [61]).1) 2 6 then (0, 0, 1) else
  if idx fieldNames (cutS w [61]).1 = 0 ∨ idx fieldNames (cutS w [61]).1 = 1 then
    if (num (cutS w [61]).2.1).2 = false then (idx fieldNames (cutS w [61]).1, 0, 3) else
    if idx fieldNames (cutS w [61]).1 = 0 ∧ betw (num (cutS w [61]).2.1).1 2 8 = false ∨ idx fieldNames (cutS w [61]).1 = 1 ∧ betw (num (cutS w [61]).2.1).1 1 6 = false then (idx fieldNames (cutS w [61]).1, 0, 4) else
    (idx fieldNames (cutS w [61]).1, (num (cutS w [61]).2.1).1, 0)
  else if idx fieldNames (cutS w [61]).1 = 7 ∨ idx fieldNames (cutS w [61]).1 = 8 then
    if idx (if idx fieldNames (cutS w [61]).1 = 8 then slamNames else capNames) (cutS w [61]).2.1 < 0 then (idx fieldNames (cutS w [61]).1, 0, 4) else
    (idx fieldNames (cutS w [61]).1, idx (if idx fieldNames (cutS w [61]).1 = 8 then slamNames else capNames) (cutS w [61]).2.1, 0)
  else (idx fieldNames (cutS w [61]).1, 1, 0)
structure Chk where
  v : List Int
  seen : List Bool
  again : Int
  out : List Prb
def Chk.zero : Chk := ⟨List.replicate 9 0, List.replicate 9 false, 0, []⟩
def chkK (c : Chk) (w : List UInt8) : Int := if (wrd w).2.2 ≠ 1 ∧ blt c.seen (wrd w).1.toNat = true then 2 else (wrd w).2.2
def chkS (c : Chk) (w : List UInt8) (a : Int) : Chk :=
  if chkK c w = 1 ∨ chkK c w = 2 then ⟨c.v, c.seen, c.again, c.out ++ [⟨chkK c w, a, w⟩]⟩ else
  ⟨setI c.v (wrd w).1 (wrd w).2.1, c.seen.set (wrd w).1.toNat true, if (wrd w).1 = 6 then a else c.again, if chkK c w = 0 then c.out else c.out ++ [⟨chkK c w, a, w⟩]⟩
def rulV (v : List Int) : Rul := ⟨nth v 0, nth v 1, decide (nth v 2 = 1), decide (nth v 3 = 1), decide (nth v 4 = 1), decide (nth v 5 = 1), decide (nth v 6 = 1), nth v 7, nth v 8⟩
section
variable {s y : List UInt8} {k : Nat} {v : List Int} {seen : List Bool} {again : Int} {out : List Prb}
end
def nNames : List (List UInt8) := [[112, 105, 116, 115], [115, 101, 101, 100, 115], [99, 97, 112, 116, 117, 114, 101], [115, 108, 97, 109]]
def isNum (y : List UInt8) : Bool := decide (y ∈ nNames)
def isFlg (y : List UInt8) : Bool := decide (y ∈ fNames)
def numIx (y : List UInt8) : Nat := if y = [112, 105, 116, 115] then 0 else if y = [115, 101, 101, 100, 115] then 1 else if y = [99, 97, 112, 116, 117, 114, 101] then 7 else 8
theorem isNum_iff {y : List UInt8} (h : isNum y = true) : y = [112, 105, 116, 115] ∨ y = [115, 101, 101, 100, 115] ∨ y = [99, 97, 112, 116, 117, 114, 101] ∨ y = [115, 108, 97, 109] := by
  have h9 := of_decide_eq_true h
  simpa [nNames] using h9
theorem isFlg_iff {y : List UInt8} (h : isFlg y = true) : y ∈ fNames := of_decide_eq_true h
theorem isNum_no {y : List UInt8} (h : isNum y = false) : y ≠ [112, 105, 116, 115] ∧ y ≠ [115, 101, 101, 100, 115] ∧ y ≠ [99, 97, 112, 116, 117, 114, 101] ∧ y ≠ [115, 108, 97, 109] := by
  have h9 := of_decide_eq_false h
  simpa [nNames] using h9
theorem isFlg_no {y : List UInt8} (h : isFlg y = false) : y ≠ [115, 116, 111, 114, 101, 115] ∧ y ≠ [115, 107, 105, 112] ∧ y ≠ [114, 101, 108, 97, 121] ∧ y ≠ [102, 101, 101, 100] ∧ y ≠ [97, 103, 97, 105, 110] := by
  have h9 := of_decide_eq_false h
  simpa [fNames] using h9
def mget {α : Type} [DecidableEq α] : List (α × Int) → α → Option Int
  | [], _ => none
  | p :: r, k => if p.1 = k then some p.2 else mget r k
def mput {α : Type} [DecidableEq α] : List (α × Int) → α → Int → List (α × Int)
  | [], k, v => [(k, v)]
  | p :: r, k, v => if p.1 = k then (k, v) :: r else p :: mput r k v
def mhas {α : Type} [DecidableEq α] (g : List (α × Int)) (k : α) : Bool := (mget g k).isSome
theorem mget_put {α : Type} [DecidableEq α] (k : α) (v : Int) (j : α) : ∀ g : List (α × Int), mget (mput g k v) j = if k = j then some v else mget g j
  | [] => by simp [mput, mget]
  | p :: r => by
    rw [mput]
    by_cases h : p.1 = k
    · rw [if_pos h, mget, mget]
      by_cases h2 : k = j
      · rw [if_pos h2, if_pos h2]
      · rw [if_neg h2, if_neg h2, if_neg (by rw [h]; exact h2)]
    · rw [if_neg h, mget, mget_put k v j r, mget]
      by_cases h2 : k = j
      · rw [if_pos h2, if_pos h2, if_neg (by rw [← h2]; exact h)]
      · rw [if_neg h2, if_neg h2]
theorem mhas_put {α : Type} [DecidableEq α] (g : List (α × Int)) (k : α) (v : Int) (j : α) : mhas (mput g k v) j = (decide (k = j) || mhas g j) := by
  unfold mhas
  rw [mget_put]
  by_cases h : k = j <;> simp [h]
theorem idx_get : ∀ {l : List (List UInt8)} {s : List UInt8}, 0 ≤ idx l s → l[(idx l s).toNat]? = some s
  | [], _, h => by simp [idx] at h
  | x :: l, s, h => by
    rw [idx] at h ⊢
    by_cases h0 : x = s
    · rw [if_pos h0]; simp [h0]
    · rw [if_neg h0] at h ⊢
      have hb := idx_bd l s
      by_cases h1 : idx l s = -1
      · rw [if_pos h1] at h; exact absurd h (by decide)
      · rw [if_neg h1] at h ⊢
        rw [show (idx l s + 1).toNat = (idx l s).toNat + 1 by omega, List.getElem?_cons_succ]
        exact idx_get (by omega)
theorem idx_inj {l : List (List UInt8)} {s t : List UInt8} (h : 0 ≤ idx l s) (e : (idx l s).toNat = (idx l t).toNat) (h2 : 0 ≤ idx l t) : s = t := by
  have a := idx_get h
  rw [e, idx_get h2] at a
  exact (Option.some.inj a).symm
def setNum (r : Rul) (y : List UInt8) (n : Int) : Rul :=
  if y = [112, 105, 116, 115] then ⟨n, r.seeds, r.stores, r.skip, r.relay, r.feed, r.again, r.capture, r.slam⟩ else
  if y = [115, 101, 101, 100, 115] then ⟨r.pits, n, r.stores, r.skip, r.relay, r.feed, r.again, r.capture, r.slam⟩ else
  if y = [99, 97, 112, 116, 117, 114, 101] then ⟨r.pits, r.seeds, r.stores, r.skip, r.relay, r.feed, r.again, n, r.slam⟩ else
  ⟨r.pits, r.seeds, r.stores, r.skip, r.relay, r.feed, r.again, r.capture, n⟩
def setFlg (r : Rul) (y : List UInt8) : Rul :=
  if y = [115, 116, 111, 114, 101, 115] then ⟨r.pits, r.seeds, true, r.skip, r.relay, r.feed, r.again, r.capture, r.slam⟩ else
  if y = [115, 107, 105, 112] then ⟨r.pits, r.seeds, r.stores, true, r.relay, r.feed, r.again, r.capture, r.slam⟩ else
  if y = [114, 101, 108, 97, 121] then ⟨r.pits, r.seeds, r.stores, r.skip, true, r.feed, r.again, r.capture, r.slam⟩ else
  if y = [102, 101, 101, 100] then ⟨r.pits, r.seeds, r.stores, r.skip, r.relay, true, r.again, r.capture, r.slam⟩ else
  ⟨r.pits, r.seeds, r.stores, r.skip, r.relay, r.feed, true, r.capture, r.slam⟩
def pitsT : List UInt8 := [112, 105, 116, 115]
def seedsT : List UInt8 := [115, 101, 101, 100, 115]
def captT : List UInt8 := [99, 97, 112, 116, 117, 114, 101]
def slamT : List UInt8 := [115, 108, 97, 109]
def agaiT : List UInt8 := [97, 103, 97, 105, 110]
def valP (y t : List UInt8) : Int × Int :=
  if y = captT then (if idx capNames t < 0 then (0, 4) else (idx capNames t, 0)) else
  if y = slamT then (if idx slamNames t < 0 then (0, 4) else (idx slamNames t, 0)) else
  if (num t).2 = false then (0, 3) else
  if y = pitsT ∧ betw (num t).1 2 8 = false ∨ y = seedsT ∧ betw (num t).1 1 6 = false then (0, 4) else ((num t).1, 0)
def valR (r : Rul) (y t : List UInt8) : Rul := if (valP y t).2 = 0 then setNum r y (valP y t).1 else r
theorem valP_z {y t : List UInt8} (h : (valP y t).2 ≠ 0) : (valP y t).1 = 0 := by
  unfold valP at h ⊢
  split
  · split
    · rfl
    · rename_i a b; rw [if_pos a, if_neg b] at h; exact absurd rfl h
  · split
    · split
      · rfl
      · rename_i c a b; rw [if_neg c, if_pos a, if_neg b] at h; exact absurd rfl h
    · split
      · rfl
      · split
        · rfl
        · rename_i a b c d; rw [if_neg a, if_neg b, if_neg c, if_neg d] at h; exact absurd rfl h
theorem p34 {a : Int} : ((a, (0 : Int)) : Int × Int).2 ≠ 1 ∧ ((a, (0 : Int)) : Int × Int).2 ≠ 2 := ⟨fun h => absurd (show (0 : Int) = 1 from h) (show ¬ (0 : Int) = 1 by decide), fun h => absurd (show (0 : Int) = 2 from h) (show ¬ (0 : Int) = 2 by decide)⟩
theorem valP_ne (y t : List UInt8) : (valP y t).2 ≠ 1 ∧ (valP y t).2 ≠ 2 := by
  unfold valP
  split
  · split
    · exact ⟨by decide, by decide⟩
    · exact p34
  · split
    · split
      · exact ⟨by decide, by decide⟩
      · exact p34
    · split
      · exact ⟨by decide, by decide⟩
      · split
        · exact ⟨by decide, by decide⟩
        · exact p34
theorem valP_pits (t : List UInt8) : valP pitsT t = if (num t).2 = false then (0, 3) else if betw (num t).1 2 8 = false then (0, 4) else ((num t).1, 0) := by
  unfold valP
  rw [if_neg (show ¬ pitsT = captT by decide), if_neg (show ¬ pitsT = slamT by decide)]
  have h1 : ¬ pitsT = seedsT := by decide
  simp [h1]
theorem valP_seeds (t : List UInt8) : valP seedsT t = if (num t).2 = false then (0, 3) else if betw (num t).1 1 6 = false then (0, 4) else ((num t).1, 0) := by
  unfold valP
  rw [if_neg (show ¬ seedsT = captT by decide), if_neg (show ¬ seedsT = slamT by decide)]
  have h1 : ¬ seedsT = pitsT := by decide
  simp [h1]
theorem valP_capt (t : List UInt8) : valP captT t = if idx capNames t < 0 then (0, 4) else (idx capNames t, 0) := by
  unfold valP; rw [if_pos rfl]
theorem valP_slam (t : List UInt8) : valP slamT t = if idx slamNames t < 0 then (0, 4) else (idx slamNames t, 0) := by
  unfold valP; rw [if_neg (show ¬ slamT = captT by decide), if_pos rfl]
structure Rdr where
  rules : Rul
  problems : List Prb
  given : List (List UInt8 × Int)
def rdU (x : Rdr) (a : Int) (w : List UInt8) (y t : List UInt8) (e : Bool) : Rdr :=
  if e = true ∧ isNum y = false ∨ e = false ∧ isFlg y = false then ⟨x.rules, x.problems ++ [⟨1, a, w⟩], x.given⟩ else
  if mhas x.given y = true then ⟨x.rules, x.problems ++ [⟨2, a, w⟩], x.given⟩ else
  if e = true then ⟨valR x.rules y t, if (valP y t).2 = 0 then x.problems else x.problems ++ [⟨(valP y t).2, a, w⟩], mput x.given y a⟩ else
  ⟨setFlg x.rules y, x.problems, mput x.given y a⟩
def rdW (x : Rdr) (a : Int) (w : List UInt8) : Rdr := rdU x a w (cutS w [61]).1 (cutS w [61]).2.1 (cutS w [61]).2.2
def wrdP (y t : List UInt8) (e : Bool) : Int × Int × Int :=
  if idx fieldNames y < 0 ∨ e = betw (idx fieldNames y) 2 6 then (0, 0, 1) else
  if idx fieldNames y = 0 ∨ idx fieldNames y = 1 then
    if (num t).2 = false then (idx fieldNames y, 0, 3) else
    if idx fieldNames y = 0 ∧ betw (num t).1 2 8 = false ∨ idx fieldNames y = 1 ∧ betw (num t).1 1 6 = false then (idx fieldNames y, 0, 4) else
    (idx fieldNames y, (num t).1, 0)
  else if idx fieldNames y = 7 ∨ idx fieldNames y = 8 then
    if idx (if idx fieldNames y = 8 then slamNames else capNames) t < 0 then (idx fieldNames y, 0, 4) else
    (idx fieldNames y, idx (if idx fieldNames y = 8 then slamNames else capNames) t, 0)
  else (idx fieldNames y, 1, 0)
theorem wrd_P (w : List UInt8) : wrd w = wrdP (cutS w [61]).1 (cutS w [61]).2.1 (cutS w [61]).2.2 := rfl
theorem wrdP_num {y t : List UInt8} (h : isNum y = true) : wrdP y t true = ((numIx y : Int), (valP y t).1, (valP y t).2) ∧ idx fieldNames y = (numIx y : Int) ∧ wrdP y t false = (0, 0, 1) ∧ isFlg y = false := by
  rcases isNum_iff h with rfl | rfl | rfl | rfl
  · refine ⟨?_, rfl, rfl, rfl⟩
    show (if (num t).2 = false then ((0 : Int), (0 : Int), (3 : Int)) else if (0 : Int) = 0 ∧ betw (num t).1 2 8 = false ∨ (0 : Int) = 1 ∧ betw (num t).1 1 6 = false then (0, 0, 4) else (0, (num t).1, 0)) = ((0 : Int), (valP pitsT t).1, (valP pitsT t).2)
    rw [valP_pits]
    by_cases h1 : (num t).2 = false
    · rw [if_pos h1, if_pos h1]
    · rw [if_neg h1, if_neg h1]
      by_cases h2 : betw (num t).1 2 8 = false
      · rw [if_pos (.inl ⟨rfl, h2⟩), if_pos h2]
      · rw [if_neg (fun h => h.elim (fun b => h2 b.2) (fun b => absurd b.1 (by decide))), if_neg h2]
  · refine ⟨?_, rfl, rfl, rfl⟩
    show (if (num t).2 = false then ((1 : Int), (0 : Int), (3 : Int)) else if (1 : Int) = 0 ∧ betw (num t).1 2 8 = false ∨ (1 : Int) = 1 ∧ betw (num t).1 1 6 = false then (1, 0, 4) else (1, (num t).1, 0)) = ((1 : Int), (valP seedsT t).1, (valP seedsT t).2)
    rw [valP_seeds]
    by_cases h1 : (num t).2 = false
    · rw [if_pos h1, if_pos h1]
    · rw [if_neg h1, if_neg h1]
      by_cases h2 : betw (num t).1 1 6 = false
      · rw [if_pos (.inr ⟨rfl, h2⟩), if_pos h2]
      · rw [if_neg (fun h => h.elim (fun b => absurd b.1 (by decide)) (fun b => h2 b.2)), if_neg h2]
  · refine ⟨?_, rfl, rfl, rfl⟩
    show (if idx capNames t < 0 then ((7 : Int), (0 : Int), (4 : Int)) else (7, idx capNames t, 0)) = ((7 : Int), (valP captT t).1, (valP captT t).2)
    rw [valP_capt]
    by_cases h1 : idx capNames t < 0
    · rw [if_pos h1, if_pos h1]
    · rw [if_neg h1, if_neg h1]
  · refine ⟨?_, rfl, rfl, rfl⟩
    show (if idx slamNames t < 0 then ((8 : Int), (0 : Int), (4 : Int)) else (8, idx slamNames t, 0)) = ((8 : Int), (valP slamT t).1, (valP slamT t).2)
    rw [valP_slam]
    by_cases h1 : idx slamNames t < 0
    · rw [if_pos h1, if_pos h1]
    · rw [if_neg h1, if_neg h1]
theorem isFlg_iff5 {y : List UInt8} (h : isFlg y = true) : y = [115, 116, 111, 114, 101, 115] ∨ y = [115, 107, 105, 112] ∨ y = [114, 101, 108, 97, 121] ∨ y = [102, 101, 101, 100] ∨ y = [97, 103, 97, 105, 110] := by
  have h9 := isFlg_iff h
  simpa [fNames] using h9
theorem wrdP_flg {y t : List UInt8} (h : isFlg y = true) : wrdP y t false = ((flagIx y : Int), 1, 0) ∧ idx fieldNames y = (flagIx y : Int) ∧ wrdP y t true = (0, 0, 1) ∧ isNum y = false := by
  rcases isFlg_iff5 h with rfl | rfl | rfl | rfl | rfl <;> exact ⟨rfl, rfl, rfl, rfl⟩
theorem wrdP_no {y t : List UInt8} {e : Bool} (h : isNum y = false) (h2 : isFlg y = false) : wrdP y t e = (0, 0, 1) := by
  obtain ⟨a1, a2, a3, a4⟩ := isNum_no h
  obtain ⟨b1, b2, b3, b4, b5⟩ := isFlg_no h2
  have : idx fieldNames y < 0 := by
    have : Nix fieldNames y 9 := fun i _ e => by
      have := List.mem_of_getElem? e
      simp only [fieldNames, List.mem_cons, List.not_mem_nil, or_false] at this
      rcases this with rfl | rfl | rfl | rfl | rfl | rfl | rfl | rfl | rfl <;> contradiction
    rw [this.miss (Nat.le_refl _)]; decide
  unfold wrdP; rw [if_pos (.inl this)]
theorem rulV_num {v : List Int} (hv : v.length = 9) {y : List UInt8} (h : isNum y = true) (n : Int) : rulV (setI v (numIx y : Int) n) = setNum (rulV v) y n := by
  match v, hv with
  | [a0, a1, a2, a3, a4, a5, a6, a7, a8], _ => rcases isNum_iff h with rfl | rfl | rfl | rfl <;> rfl
theorem rulV_flg {v : List Int} (hv : v.length = 9) {y : List UInt8} (h : isFlg y = true) : rulV (setI v (flagIx y : Int) 1) = setFlg (rulV v) y := by
  match v, hv with
  | [a0, a1, a2, a3, a4, a5, a6, a7, a8], _ => rcases isFlg_iff5 h with rfl | rfl | rfl | rfl | rfl <;> rfl
theorem blt_set {l : List Bool} {k j : Nat} (hk : k < l.length) : blt (l.set k true) j = (decide (j = k) || blt l j) := by
  unfold blt
  by_cases h : j = k
  · subst h; simp [List.getD, hk]
  · simp [List.getD, List.getElem?_set, h, show ¬ k = j from fun e => h e.symm]
theorem nth_setI {l : List Int} {k : Int} {n : Int} {j : Nat} (h : ¬ (j : Int) = k) (h0 : 0 ≤ k) : nth (setI l k n) j = nth l j := by
  unfold nth setI
  have : ¬ k.toNat = j := by omega
  simp [List.getD, List.getElem?_set, this]
theorem setI_same {l : List Int} {k : Int} (h : nth l k.toNat = 0) : setI l k 0 = l := by
  unfold setI
  apply List.ext_getElem?
  intro i
  rw [List.getElem?_set]
  split
  · rename_i e
    subst e
    split
    · rename_i hlt
      rw [nth_eq hlt] at h
      rw [List.getElem?_eq_getElem hlt, h]
    · rename_i hlt
      rw [List.getElem?_eq_none (by omega)]
  · rfl
theorem nth_setI_eq {l : List Int} {k : Int} {n : Int} (h : k.toNat < l.length) : nth (setI l k n) k.toNat = n := by
  unfold nth setI; simp [List.getD, h]
structure RelC (x : Rdr) (c : Chk) : Prop where
  r : x.rules = rulV c.v
  p : x.problems = c.out
  g : ∀ y, mhas x.given y = (decide (0 ≤ idx fieldNames y) && blt c.seen (idx fieldNames y).toNat)
  lv : c.v.length = 9
  ls : c.seen.length = 9
  a : blt c.seen 6 = true → mget x.given agaiT = some c.again
  z : ∀ k, blt c.seen k = false → nth c.v k = 0
  f6 : blt c.seen 6 = true → nth c.v 6 = 1
  f2 : blt c.seen 2 = true → nth c.v 2 = 1
theorem rep_b (n k : Nat) : (List.replicate n false).getD k false = false := by
  rw [List.getD_eq_getElem?_getD, List.getElem?_replicate]; split <;> rfl
theorem rep_i (n k : Nat) : (List.replicate n (0 : Int)).getD k 0 = 0 := by
  rw [List.getD_eq_getElem?_getD, List.getElem?_replicate]; split <;> rfl
theorem RelC.zero : RelC ⟨⟨0, 0, false, false, false, false, false, 0, 0⟩, [], []⟩ Chk.zero := by
  refine ⟨rfl, rfl, fun y => ?_, rfl, rfl, fun h => absurd h (by decide), fun k _ => rep_i 9 k, fun h => absurd h (by decide), fun h => absurd h (by decide)⟩
  have : blt Chk.zero.seen (idx fieldNames y).toNat = false := rep_b 9 _
  rw [this]; simp [mhas, mget]
theorem RelC.put {x : Rdr} {c : Chk} (h : RelC x c) {y : List UInt8} {k : Nat} (a : Int) (hi : idx fieldNames y = (k : Int)) (hk : k < 9) (y' : List UInt8) :
    mhas (mput x.given y a) y' = (decide (0 ≤ idx fieldNames y') && blt (c.seen.set k true) (idx fieldNames y').toNat) := by
  rw [mhas_put, h.g, blt_set (by have := h.ls; omega)]
  by_cases e : y = y'
  · subst e; rw [hi]; simp
  · by_cases h0 : 0 ≤ idx fieldNames y'
    · have : ¬ (idx fieldNames y').toNat = k := fun e2 => e (idx_inj (l := fieldNames) (by rw [hi]; omega) (by rw [hi, e2]; simp) h0)
      simp [e, h0, this]
    · simp [e, h0]
section
variable {c : Chk} {w : List UInt8} {a i n q : Int}
theorem chkS_u (e : wrd w = (i, n, q)) (h : q = 1) : chkS c w a = ⟨c.v, c.seen, c.again, c.out ++ [⟨1, a, w⟩]⟩ := by
  have hK : chkK c w = 1 := by unfold chkK; rw [if_neg (by rw [e]; simp [h]), e]; exact h
  unfold chkS; rw [hK, if_pos (.inl rfl)]
theorem chkS_t (e : wrd w = (i, n, q)) (h : q ≠ 1) (hb : blt c.seen i.toNat = true) : chkS c w a = ⟨c.v, c.seen, c.again, c.out ++ [⟨2, a, w⟩]⟩ := by
  have hK : chkK c w = 2 := by unfold chkK; rw [if_pos (by rw [e]; exact ⟨h, hb⟩)]
  unfold chkS; rw [hK, if_pos (.inr rfl)]
theorem chkS_n (e : wrd w = (i, n, q)) (h : q ≠ 1) (h2 : q ≠ 2) (hb : blt c.seen i.toNat = false) : chkS c w a = ⟨setI c.v i n, c.seen.set i.toNat true, if i = 6 then a else c.again, if q = 0 then c.out else c.out ++ [⟨q, a, w⟩]⟩ := by
  have hK : chkK c w = q := by unfold chkK; rw [if_neg (by rw [e]; simp [hb]), e]
  unfold chkS; rw [hK, if_neg (by rintro (h9 | h9); exact h h9; exact h2 h9), e]
end
theorem RelC.step {x : Rdr} {c : Chk} (h : RelC x c) (a : Int) (w : List UInt8) : RelC (rdW x a w) (chkS c w a) := by
  have hw := wrd_P w
  unfold rdW
  generalize (cutS w [61]).1 = y at hw ⊢
  generalize (cutS w [61]).2.1 = t at hw ⊢
  generalize (cutS w [61]).2.2 = e at hw ⊢
  have unk : wrd w = (0, 0, 1) → RelC ⟨x.rules, x.problems ++ [⟨1, a, w⟩], x.given⟩ (chkS c w a) := fun e1 => by
    rw [chkS_u e1 rfl]
    exact ⟨h.r, by show x.problems ++ _ = c.out ++ _; rw [h.p], h.g, h.lv, h.ls, h.a, h.z, h.f6, h.f2⟩
  have twi : ∀ {k : Nat} {n q : Int}, wrd w = ((k : Int), n, q) → q ≠ 1 → blt c.seen k = true → RelC ⟨x.rules, x.problems ++ [⟨2, a, w⟩], x.given⟩ (chkS c w a) := fun {k n q} e1 hq hb => by
    rw [chkS_t e1 hq (by simpa using hb)]
    exact ⟨h.r, by show x.problems ++ _ = c.out ++ _; rw [h.p], h.g, h.lv, h.ls, h.a, h.z, h.f6, h.f2⟩
  have has : ∀ {k : Nat}, idx fieldNames y = (k : Int) → mhas x.given y = blt c.seen k := fun {k} hi => by rw [h.g, hi]; simp
  unfold rdU
  cases hn : isNum y with
  | true =>
    obtain ⟨q1, q2, q3, q4⟩ := wrdP_num (t := t) hn
    cases e with
    | false => rw [if_pos (.inr ⟨rfl, q4⟩)]; exact unk (hw.trans q3)
    | true =>
      rw [if_neg (by simp)]
      have hw' := hw.trans q1
      obtain ⟨v1, v2⟩ := valP_ne y t
      have hk9 : numIx y < 9 ∧ numIx y ≠ 6 ∧ numIx y ≠ 2 := by
        rcases isNum_iff hn with rfl | rfl | rfl | rfl <;> decide
      rw [has q2]
      cases hb : blt c.seen (numIx y) with
      | true => rw [if_pos rfl]; exact twi hw' v1 hb
      | false =>
        rw [if_neg (by decide), if_pos rfl]
        rw [chkS_n hw' v1 v2 (by rw [Int.toNat_natCast]; exact hb), Int.toNat_natCast]
        refine ⟨?_, ?_, h.put a q2 hk9.1, by rw [setI_length]; exact h.lv, by rw [List.length_set]; exact h.ls, fun hs => ?_, fun k hs => ?_, fun hs => ?_, fun hs => ?_⟩
        · dsimp only
          unfold valR
          by_cases h0 : (valP y t).2 = 0
          · rw [if_pos h0, rulV_num h.lv hn, h.r]
          · rw [if_neg h0, valP_z h0, setI_same (by rw [Int.toNat_natCast]; exact h.z _ hb), h.r]
        · dsimp only; rw [h.p]
        · have hs' : blt c.seen 6 = true := by
            have := hs
            dsimp only at this
            rw [blt_set (by have := h.ls; omega)] at this
            simpa [hk9.2.1.symm] using this
          dsimp only
          rw [if_neg (by have := hk9.2.1; omega), mget_put, if_neg (by intro e2; subst e2; exact absurd hn (by decide))]
          exact h.a hs'
        · dsimp only at hs ⊢
          rw [blt_set (by have := h.ls; omega)] at hs
          simp only [Bool.or_eq_false_iff, decide_eq_false_iff_not] at hs
          rw [nth_setI (by have := hs.1; omega) (by omega)]
          exact h.z k hs.2
        · dsimp only at hs ⊢
          rw [blt_set (by have := h.ls; omega)] at hs
          have hs' : blt c.seen 6 = true := by simpa [hk9.2.1.symm] using hs
          rw [nth_setI (by have := hk9.2.1; omega) (by omega)]
          exact h.f6 hs'
        · dsimp only at hs ⊢
          rw [blt_set (by have := h.ls; omega)] at hs
          have hs' : blt c.seen 2 = true := by simpa [hk9.2.2.symm] using hs
          rw [nth_setI (by have := hk9.2.2; omega) (by omega)]
          exact h.f2 hs'
  | false =>
    cases hf : isFlg y with
    | false => rw [if_pos (by cases e; exact .inr ⟨rfl, rfl⟩; exact .inl ⟨rfl, rfl⟩)]; exact unk (hw.trans (wrdP_no hn hf))
    | true =>
      obtain ⟨q1, q2, q3, q4⟩ := wrdP_flg (t := t) hf
      cases e with
      | true => rw [if_pos (.inl ⟨rfl, rfl⟩)]; exact unk (hw.trans q3)
      | false =>
        rw [if_neg (by simp)]
        have hw' := hw.trans q1
        have hk9 : flagIx y < 9 ∧ (flagIx y = 6 → y = agaiT) ∧ (flagIx y ≠ 6 → y ≠ agaiT) := by
          rcases isFlg_iff5 hf with rfl | rfl | rfl | rfl | rfl <;> decide
        rw [has q2]
        cases hb : blt c.seen (flagIx y) with
        | true => rw [if_pos rfl]; exact twi hw' (by decide) hb
        | false =>
          rw [if_neg (by decide), if_neg (by decide)]
          rw [chkS_n hw' (by decide) (by decide) (by rw [Int.toNat_natCast]; exact hb), Int.toNat_natCast, if_pos rfl]
          refine ⟨?_, h.p, h.put a q2 hk9.1, by rw [setI_length]; exact h.lv, by rw [List.length_set]; exact h.ls, fun hs => ?_, fun k hs => ?_, fun hs => ?_, fun hs => ?_⟩
          · dsimp only; rw [rulV_flg h.lv hf, h.r]
          · dsimp only at hs ⊢
            rw [blt_set (by have := h.ls; omega)] at hs
            by_cases h6 : flagIx y = 6
            · rw [if_pos (by omega), mget_put, if_pos (hk9.2.1 h6)]
            · rw [if_neg (by omega), mget_put, if_neg (hk9.2.2 h6)]
              exact h.a (by simpa [show ¬ 6 = flagIx y from fun e2 => h6 e2.symm] using hs)
          · dsimp only at hs ⊢
            rw [blt_set (by have := h.ls; omega)] at hs
            simp only [Bool.or_eq_false_iff, decide_eq_false_iff_not] at hs
            rw [nth_setI (by have := hs.1; omega) (by omega)]
            exact h.z k hs.2
          · dsimp only at hs ⊢
            rw [blt_set (by have := h.ls; omega)] at hs
            by_cases h6 : 6 = flagIx y
            · have := nth_setI_eq (l := c.v) (k := (flagIx y : Int)) (n := 1) (by have := h.lv; omega)
              rw [Int.toNat_natCast, ← h6] at this; rw [← h6]; exact this
            · rw [nth_setI (by omega) (by omega)]
              exact h.f6 (by simpa [h6] using hs)
          · dsimp only at hs ⊢
            rw [blt_set (by have := h.ls; omega)] at hs
            by_cases h6 : 2 = flagIx y
            · have := nth_setI_eq (l := c.v) (k := (flagIx y : Int)) (n := 1) (by have := h.lv; omega)
              rw [Int.toNat_natCast, ← h6] at this; rw [← h6]; exact this
            · rw [nth_setI (by omega) (by omega)]
              exact h.f2 (by simpa [h6] using hs)
structure PtI (s : List UInt8) (j : Nat) (a : Int) (k : Nat) : Prop where
  w : (wds s).drop k = ((split 32 s).drop j).filter (fun w => decide (w ≠ []))
  p : (pls s).drop k = plsW a ((split 32 s).drop j)
  a0 : 0 ≤ a ∧ a ≤ (s.length : Int) + 1
  l : (split 32 s).drop j ≠ [] → a + ((joinW 32 ((split 32 s).drop j)).length : Int) = (s.length : Int)
theorem PtI.zero (s : List UInt8) : PtI s 0 0 0 := ⟨rfl, rfl, by omega, fun _ => by rw [List.drop_zero, joinW_split]; omega⟩
theorem PtI.next {s y : List UInt8} {j : Nat} {a : Int} {k : Nat} (h : PtI s j a k) (hy : (split 32 s)[j]? = some y) : (0 ≤ a + (y.length : Int) + 1 ∧ a + (y.length : Int) + 1 ≤ (s.length : Int) + 1) ∧ ((split 32 s).drop (j + 1) ≠ [] → a + (y.length : Int) + 1 + ((joinW 32 ((split 32 s).drop (j + 1))).length : Int) = (s.length : Int)) := by
  obtain ⟨hj, hy'⟩ := List.getElem?_eq_some_iff.1 hy
  have e : (split 32 s).drop j = y :: (split 32 s).drop (j + 1) := by rw [List.drop_eq_getElem_cons hj, hy']
  have hl := h.l (by rw [e]; simp)
  have h0 := h.a0
  rw [e] at hl
  cases hr : (split 32 s).drop (j + 1) with
  | nil =>
    rw [hr] at hl
    have : joinW 32 [y] = y := rfl
    rw [this] at hl
    exact ⟨by omega, fun h => absurd rfl h⟩
  | cons v ws =>
    rw [hr] at hl
    rw [joinW_cons 32 y (by simp), List.length_append, List.length_cons] at hl
    refine ⟨by omega, fun _ => by omega⟩
theorem PtI.word {s y : List UInt8} {j : Nat} {a : Int} {k : Nat} (h : PtI s j a k) (hy : (split 32 s)[j]? = some y) (hne : y ≠ []) : PtI s (j + 1) (a + (y.length : Int) + 1) (k + 1) ∧ (wds s)[k]? = some y ∧ nth (pls s) k = a := by
  obtain ⟨h1, h2⟩ := h.next hy
  obtain ⟨hj, hy'⟩ := List.getElem?_eq_some_iff.1 hy
  have e : (split 32 s).drop j = y :: (split 32 s).drop (j + 1) := by rw [List.drop_eq_getElem_cons hj, hy']
  have hw : (wds s).drop k = y :: ((split 32 s).drop (j + 1)).filter (fun w => decide (w ≠ [])) := by rw [h.w, e, List.filter_cons_of_pos (by simpa using hne)]
  have hp : (pls s).drop k = a :: plsW (a + (y.length : Int) + 1) ((split 32 s).drop (j + 1)) := by rw [h.p, e, plsW, if_neg hne]
  have hd : ∀ {α : Type} {l : List α} {x : α} {r : List α} {k : Nat}, l.drop k = x :: r → l[k]? = some x ∧ l.drop (k + 1) = r := fun {α l x r k} he => by
    constructor
    · have := congrArg (·[0]?) he; simpa using this
    · rw [← List.drop_drop, he]; rfl
  refine ⟨⟨(hd hw).2, (hd hp).2, h1, h2⟩, (hd hw).1, ?_⟩
  have := (hd hp).1
  unfold nth; simp [List.getD, this]
theorem PtI.done {s : List UInt8} {j : Nat} {a : Int} {k : Nat} (h : PtI s j a k) (hj : (split 32 s).length ≤ j) (hk : k ≤ (wds s).length) : k = (wds s).length := by
  have := h.w
  rw [List.drop_eq_nil_of_le hj] at this
  have h2 : (wds s).drop k = [] := this
  rw [List.drop_eq_nil_iff] at h2
  omega
end Go.Proofs.YtjklnidbndopiaaGreatDoor.M
namespace Go.Proofs.YtjklnidbndopiaaGreatDoor
open Go.RowKit
open Go.MapKept (IsKey sameNow_of_keys heap_set)
class KeyV (α : Type) [DecidableEq α] where
  kv : α → Value
  kd : TypeDesc
  is : ∀ a, IsKey kd (kv a)
  inj : ∀ a b, kv a = kv b → a = b
instance keyS : KeyV (List UInt8) := ⟨fun k => .string (sB k), .string, fun _ => trivial, fun a b h => by
  have h1 : sB a = sB b := by injection h
  have h2 := congrArg (fun x : ByteArray => x.data.toList) h1
  simpa [sB] using h2⟩
instance keyI : KeyV Int := ⟨fun k => .int .i64 k, .int .i64, fun _ => rfl, fun a b h => by injection h⟩
section
variable {α : Type} [DecidableEq α] [KeyV α]
omit [KeyV α] in
variable {P : Program} {n lo : Nat} {B : List Nat} {l : Fr} {os : List Own} {u : World} {dst : Option Tmp} {ty : TypeId} {pos : String} {af : Array Edge} {gd : Option (Nat × Bool)}
end
section
variable {P : Program} {n lo : Nat} {B : List Nat} {l : Fr} {os : List Own} {u : World} {dst : Option Tmp} {ty : TypeId} {pos : String} {af : Array Edge} {gd : Option (Nat × Bool)}
end
theorem cellsOk_cons {w : World} {T : Ty} {Ts : List Ty} : ∀ {vs : List Value}, cellsOk w (T :: Ts) vs → ∃ x r, vs = x :: r ∧ T.ok w x ∧ cellsOk w Ts r
  | x :: r, h => ⟨x, r, rfl, h.1, h.2⟩
theorem cellsOk_nil {w : World} : ∀ {vs : List Value}, cellsOk w [] vs → vs = []
  | [], _ => rfl
theorem cellsOwn_cons {w : World} {T : Ty} {Ts : List Ty} {fp : List Nat} : ∀ {vs : List Value}, cellsOwn w (T :: Ts) vs fp → ∃ x r f1 f2, vs = x :: r ∧ fp = f1 ++ f2 ∧ T.own w x f1 ∧ cellsOwn w Ts r f2
  | x :: r, ⟨f1, f2, e, a, b⟩ => ⟨x, r, f1, f2, rfl, e, a, b⟩
theorem cellsOwn_nil {w : World} {fp : List Nat} : ∀ {vs : List Value}, cellsOwn w [] vs fp → vs = [] ∧ fp = []
  | [], h => ⟨rfl, h⟩
theorem drop_flat {α β : Type} (f : α → List β) (k : Nat) (hf : ∀ a, (f a).length = k) : ∀ (l : List α) (i : Nat) (a : α), l[i]? = some a → ((l.flatMap f).drop (i * k)).take k = f a
  | x :: l, 0, a, h => by
    simp at h; subst h
    simp [List.flatMap_cons, hf, List.take_append]
  | x :: l, i + 1, a, h => by
    simp at h
    rw [List.flatMap_cons, Nat.succ_mul, Nat.add_comm, ← List.drop_drop, List.drop_left' (hf x)]
    exact drop_flat f k hf l i a h
  | [], _, _, h => by simp at h
theorem flat_len {α β : Type} (f : α → List β) (k : Nat) (hf : ∀ a, (f a).length = k) : ∀ (l : List α), (l.flatMap f).length = l.length * k
  | [] => by simp
  | x :: l => by rw [List.flatMap_cons, List.length_append, hf, flat_len f k hf l, List.length_cons, Nat.succ_mul, Nat.add_comm]
instance ty_2 : TyI Tryz.prog 2 false 1 := ⟨by kernel_rfl⟩
instance ty_4 : TyI Tryz.prog 4 false 1 := ⟨by kernel_rfl⟩
instance ty_9 : TyI Tryz.prog 9 false 1 := ⟨by kernel_rfl⟩
instance ty_23 : TyI Tryz.prog 23 true 9 := ⟨by kernel_rfl⟩
instance ty_24 : TyI Tryz.prog 24 false 1 := ⟨by kernel_rfl⟩
instance ty_26 : TyI Tryz.prog 26 true 10 := ⟨by kernel_rfl⟩
instance ty_29 : TyI Tryz.prog 29 true 9 := ⟨by kernel_rfl⟩
instance ty_30 : TyI Tryz.prog 30 false 1 := ⟨by kernel_rfl⟩
instance ty_32 : TyI Tryz.prog 32 true 10 := ⟨by kernel_rfl⟩
instance ty_42 : TyI Tryz.prog 42 false 1 := ⟨by kernel_rfl⟩
instance ty_44 : TyI Tryz.prog 44 true 3 := ⟨by kernel_rfl⟩
instance ty_54 : TyI Tryz.prog 54 false 1 := ⟨by kernel_rfl⟩
instance ty_58 : TyI Tryz.prog 58 true 3 := ⟨by kernel_rfl⟩
instance ty_67 : TyI Tryz.prog 67 true 2 := ⟨by kernel_rfl⟩
instance ty_119 : TyI Tryz.prog 119 false 1 := ⟨by kernel_rfl⟩
instance ty_121 : TyI Tryz.prog 121 true 2 := ⟨by kernel_rfl⟩
instance ty_150 : TyI Tryz.prog 150 true 6 := ⟨by kernel_rfl⟩
instance ty_153 : TyI Tryz.prog 153 true 4 := ⟨by kernel_rfl⟩
instance ty_205 : TyI Tryz.prog 205 true 15 := ⟨by kernel_rfl⟩
instance ty_218 : TyI Tryz.prog 218 true 3 := ⟨by kernel_rfl⟩
instance fld_23_0 : FldI Tryz.prog 23 0 0 2 false 1 := ⟨by kernel_rfl⟩
instance fld_23_1 : FldI Tryz.prog 23 1 1 2 false 1 := ⟨by kernel_rfl⟩
instance fld_23_2 : FldI Tryz.prog 23 2 2 4 false 1 := ⟨by kernel_rfl⟩
instance fld_23_3 : FldI Tryz.prog 23 3 3 4 false 1 := ⟨by kernel_rfl⟩
instance fld_23_4 : FldI Tryz.prog 23 4 4 4 false 1 := ⟨by kernel_rfl⟩
instance fld_23_5 : FldI Tryz.prog 23 5 5 4 false 1 := ⟨by kernel_rfl⟩
instance fld_23_6 : FldI Tryz.prog 23 6 6 4 false 1 := ⟨by kernel_rfl⟩
instance fld_23_7 : FldI Tryz.prog 23 7 7 2 false 1 := ⟨by kernel_rfl⟩
instance fld_23_8 : FldI Tryz.prog 23 8 8 2 false 1 := ⟨by kernel_rfl⟩
instance fld_26_0 : FldI Tryz.prog 26 0 0 23 true 9 := ⟨by kernel_rfl⟩
instance fld_26_1 : FldI Tryz.prog 26 1 9 24 false 1 := ⟨by kernel_rfl⟩
instance fld_29_0 : FldI Tryz.prog 29 0 0 2 false 1 := ⟨by kernel_rfl⟩
instance fld_29_1 : FldI Tryz.prog 29 1 1 2 false 1 := ⟨by kernel_rfl⟩
instance fld_29_2 : FldI Tryz.prog 29 2 2 4 false 1 := ⟨by kernel_rfl⟩
instance fld_29_3 : FldI Tryz.prog 29 3 3 4 false 1 := ⟨by kernel_rfl⟩
instance fld_29_4 : FldI Tryz.prog 29 4 4 4 false 1 := ⟨by kernel_rfl⟩
instance fld_29_5 : FldI Tryz.prog 29 5 5 4 false 1 := ⟨by kernel_rfl⟩
instance fld_29_6 : FldI Tryz.prog 29 6 6 4 false 1 := ⟨by kernel_rfl⟩
instance fld_29_7 : FldI Tryz.prog 29 7 7 2 false 1 := ⟨by kernel_rfl⟩
instance fld_29_8 : FldI Tryz.prog 29 8 8 2 false 1 := ⟨by kernel_rfl⟩
instance fld_32_0 : FldI Tryz.prog 32 0 0 29 true 9 := ⟨by kernel_rfl⟩
instance fld_32_1 : FldI Tryz.prog 32 1 9 30 false 1 := ⟨by kernel_rfl⟩
instance fld_44_0 : FldI Tryz.prog 44 0 0 42 false 1 := ⟨by kernel_rfl⟩
instance fld_44_1 : FldI Tryz.prog 44 1 1 42 false 1 := ⟨by kernel_rfl⟩
instance fld_44_2 : FldI Tryz.prog 44 2 2 2 false 1 := ⟨by kernel_rfl⟩
instance fld_58_0 : FldI Tryz.prog 58 0 0 2 false 1 := ⟨by kernel_rfl⟩
instance fld_58_1 : FldI Tryz.prog 58 1 1 2 false 1 := ⟨by kernel_rfl⟩
instance fld_58_2 : FldI Tryz.prog 58 2 2 2 false 1 := ⟨by kernel_rfl⟩
instance fld_67_0 : FldI Tryz.prog 67 0 0 42 false 1 := ⟨by kernel_rfl⟩
instance fld_67_1 : FldI Tryz.prog 67 1 1 54 false 1 := ⟨by kernel_rfl⟩
instance fld_121_0 : FldI Tryz.prog 121 0 0 42 false 1 := ⟨by kernel_rfl⟩
instance fld_121_1 : FldI Tryz.prog 121 1 1 119 false 1 := ⟨by kernel_rfl⟩
instance fld_150_2 : FldI Tryz.prog 150 2 2 4 false 1 := ⟨by kernel_rfl⟩
instance fld_150_3 : FldI Tryz.prog 150 3 3 44 true 3 := ⟨by kernel_rfl⟩
instance fld_153_0 : FldI Tryz.prog 153 0 0 42 false 1 := ⟨by kernel_rfl⟩
instance fld_153_1 : FldI Tryz.prog 153 1 1 42 false 1 := ⟨by kernel_rfl⟩
instance fld_153_2 : FldI Tryz.prog 153 2 2 2 false 1 := ⟨by kernel_rfl⟩
instance fld_153_3 : FldI Tryz.prog 153 3 3 2 false 1 := ⟨by kernel_rfl⟩
instance fld_205_0 : FldI Tryz.prog 205 0 0 29 true 9 := ⟨by kernel_rfl⟩
instance fld_205_1 : FldI Tryz.prog 205 1 9 2 false 1 := ⟨by kernel_rfl⟩
instance fld_205_2 : FldI Tryz.prog 205 2 10 153 true 4 := ⟨by kernel_rfl⟩
instance fld_205_3 : FldI Tryz.prog 205 3 14 42 false 1 := ⟨by kernel_rfl⟩
instance fld_218_0 : FldI Tryz.prog 218 0 0 2 false 1 := ⟨by kernel_rfl⟩
instance fld_218_1 : FldI Tryz.prog 218 1 1 2 false 1 := ⟨by kernel_rfl⟩
instance fld_218_2 : FldI Tryz.prog 218 2 2 2 false 1 := ⟨by kernel_rfl⟩
instance eI_24 : ElI Tryz.prog 24 121 2 48 [.slice none 0 0, .slice none 0 0] := ⟨by kernel_rfl⟩
theorem el_24 : elOf Tryz.prog 24 = some (121, 2, 48, [.slice none 0 0, .slice none 0 0]) := ElI.h
instance eI_30 : ElI Tryz.prog 30 67 2 48 [.slice none 0 0, .slice none 0 0] := ⟨by kernel_rfl⟩
theorem el_30 : elOf Tryz.prog 30 = some (67, 2, 48, [.slice none 0 0, .slice none 0 0]) := ElI.h
instance eI_40 : ElI Tryz.prog 40 5 1 1 [.int .u8 0] := ⟨by kernel_rfl⟩
theorem el_40 : elOf Tryz.prog 40 = some (5, 1, 1, [.int .u8 0]) := ElI.h
instance eI_42 : ElI Tryz.prog 42 2 1 8 [.int .i64 0] := ⟨by kernel_rfl⟩
theorem el_42 : elOf Tryz.prog 42 = some (2, 1, 8, [.int .i64 0]) := ElI.h
instance eI_54 : ElI Tryz.prog 54 58 3 24 [.int .i64 0, .int .i64 0, .int .i64 0] := ⟨by kernel_rfl⟩
theorem el_54 : elOf Tryz.prog 54 = some (58, 3, 24, [.int .i64 0, .int .i64 0, .int .i64 0]) := ElI.h
instance eI_72 : ElI Tryz.prog 72 9 1 16 [.string ByteArray.empty] := ⟨by kernel_rfl⟩
theorem el_72 : elOf Tryz.prog 72 = some (9, 1, 16, [.string ByteArray.empty]) := ElI.h
instance eI_119 : ElI Tryz.prog 119 218 3 24 [.int .i64 0, .int .i64 0, .int .i64 0] := ⟨by kernel_rfl⟩
theorem el_119 : elOf Tryz.prog 119 = some (218, 3, 24, [.int .i64 0, .int .i64 0, .int .i64 0]) := ElI.h
instance zero_29 : ZeroI Tryz.prog 29 [.int .i64 0, .int .i64 0, .bool false, .bool false, .bool false, .bool false, .bool false, .int .i64 0, .int .i64 0] := ⟨by kernel_rfl⟩
instance zero_32 : ZeroI Tryz.prog 32 [.int .i64 0, .int .i64 0, .bool false, .bool false, .bool false, .bool false, .bool false, .int .i64 0, .int .i64 0, .slice none 0 0] := ⟨by kernel_rfl⟩
instance zero_44 : ZeroI Tryz.prog 44 [.slice none 0 0, .slice none 0 0, .int .i64 0] := ⟨by kernel_rfl⟩
instance zero_58 : ZeroI Tryz.prog 58 [.int .i64 0, .int .i64 0, .int .i64 0] := ⟨by kernel_rfl⟩
instance zero_67 : ZeroI Tryz.prog 67 [.slice none 0 0, .slice none 0 0] := ⟨by kernel_rfl⟩
instance zero_150 : ZeroI Tryz.prog 150 [.int .i64 0, .int .i64 0, .bool false, .slice none 0 0, .slice none 0 0, .int .i64 0] := ⟨by kernel_rfl⟩
instance zero_153 : ZeroI Tryz.prog 153 [.slice none 0 0, .slice none 0 0, .int .i64 0, .int .i64 0] := ⟨by kernel_rfl⟩
instance zero_205 : ZeroI Tryz.prog 205 [.int .i64 0, .int .i64 0, .bool false, .bool false, .bool false, .bool false, .bool false, .int .i64 0, .int .i64 0, .int .i64 0, .slice none 0 0, .slice none 0 0, .int .i64 0, .int .i64 0, .slice none 0 0] := ⟨by kernel_rfl⟩
instance flds_44 : FldsI Tryz.prog 44 [(0, 1), (1, 1), (2, 1)] := ⟨by kernel_rfl⟩
instance flds_150 : FldsI Tryz.prog 150 [(0, 1), (1, 1), (2, 1), (3, 3)] := ⟨by kernel_rfl⟩
instance flds_153 : FldsI Tryz.prog 153 [(0, 1), (1, 1), (2, 1), (3, 1)] := ⟨by kernel_rfl⟩
instance flds_205 : FldsI Tryz.prog 205 [(0, 9), (9, 1), (10, 4), (14, 1)] := ⟨by kernel_rfl⟩
instance fn_6 : FnI Tryz.prog 6 := ⟨by kernel_rfl⟩
instance fn_7 : FnI Tryz.prog 7 := ⟨by kernel_rfl⟩
instance fn_8 : FnI Tryz.prog 8 := ⟨by kernel_rfl⟩
instance fn_9 : FnI Tryz.prog 9 := ⟨by kernel_rfl⟩
instance fn_10 : FnI Tryz.prog 10 := ⟨by kernel_rfl⟩
instance fn_24 : FnI Tryz.prog 24 := ⟨by kernel_rfl⟩
instance fn_27 : FnI Tryz.prog 27 := ⟨by kernel_rfl⟩
instance fn_28 : FnI Tryz.prog 28 := ⟨by kernel_rfl⟩
instance fn_29 : FnI Tryz.prog 29 := ⟨by kernel_rfl⟩
instance fn_30 : FnI Tryz.prog 30 := ⟨by kernel_rfl⟩
instance fn_31 : FnI Tryz.prog 31 := ⟨by kernel_rfl⟩
instance fn_32 : FnI Tryz.prog 32 := ⟨by kernel_rfl⟩
instance fn_33 : FnI Tryz.prog 33 := ⟨by kernel_rfl⟩
instance fn_34 : FnI Tryz.prog 34 := ⟨by kernel_rfl⟩
instance fn_35 : FnI Tryz.prog 35 := ⟨by kernel_rfl⟩
instance fn_36 : FnI Tryz.prog 36 := ⟨by kernel_rfl⟩
instance fn_53 : FnI Tryz.prog 53 := ⟨by kernel_rfl⟩
instance fn_54 : FnI Tryz.prog 54 := ⟨by kernel_rfl⟩
instance fn_55 : FnI Tryz.prog 55 := ⟨by kernel_rfl⟩
instance fn_60 : FnI Tryz.prog 60 := ⟨by kernel_rfl⟩
instance fn_61 : FnI Tryz.prog 61 := ⟨by kernel_rfl⟩
instance fn_62 : FnI Tryz.prog 62 := ⟨by kernel_rfl⟩
instance fn_72 : FnI Tryz.prog 72 := ⟨by kernel_rfl⟩
instance fn_73 : FnI Tryz.prog 73 := ⟨by kernel_rfl⟩
instance fn_74 : FnI Tryz.prog 74 := ⟨by kernel_rfl⟩
instance fn_76 : FnI Tryz.prog 76 := ⟨by kernel_rfl⟩
instance fn_77 : FnI Tryz.prog 77 := ⟨by kernel_rfl⟩
instance fn_78 : FnI Tryz.prog 78 := ⟨by kernel_rfl⟩
instance fn_79 : FnI Tryz.prog 79 := ⟨by kernel_rfl⟩
instance fn_80 : FnI Tryz.prog 80 := ⟨by kernel_rfl⟩
instance fn_81 : FnI Tryz.prog 81 := ⟨by kernel_rfl⟩
instance fn_82 : FnI Tryz.prog 82 := ⟨by kernel_rfl⟩
instance fn_83 : FnI Tryz.prog 83 := ⟨by kernel_rfl⟩
instance fn_84 : FnI Tryz.prog 84 := ⟨by kernel_rfl⟩
instance fn_85 : FnI Tryz.prog 85 := ⟨by kernel_rfl⟩
instance fn_86 : FnI Tryz.prog 86 := ⟨by kernel_rfl⟩
instance fn_87 : FnI Tryz.prog 87 := ⟨by kernel_rfl⟩
instance fn_88 : FnI Tryz.prog 88 := ⟨by kernel_rfl⟩
instance fn_89 : FnI Tryz.prog 89 := ⟨by kernel_rfl⟩
instance fn_103 : FnI Tryz.prog 103 := ⟨by kernel_rfl⟩
instance fn_104 : FnI Tryz.prog 104 := ⟨by kernel_rfl⟩
instance fn_105 : FnI Tryz.prog 105 := ⟨by kernel_rfl⟩
instance fn_106 : FnI Tryz.prog 106 := ⟨by kernel_rfl⟩
instance fn_108 : FnI Tryz.prog 108 := ⟨by kernel_rfl⟩
instance fn_110 : FnI Tryz.prog 110 := ⟨by kernel_rfl⟩
instance fn_111 : FnI Tryz.prog 111 := ⟨by kernel_rfl⟩
instance fn_113 : FnI Tryz.prog 113 := ⟨by kernel_rfl⟩
instance fn_126 : FnI Tryz.prog 126 := ⟨by kernel_rfl⟩
instance fn_127 : FnI Tryz.prog 127 := ⟨by kernel_rfl⟩
instance fn_128 : FnI Tryz.prog 128 := ⟨by kernel_rfl⟩
instance fn_129 : FnI Tryz.prog 129 := ⟨by kernel_rfl⟩
instance fn_130 : FnI Tryz.prog 130 := ⟨by kernel_rfl⟩
instance fn_131 : FnI Tryz.prog 131 := ⟨by kernel_rfl⟩
instance fn_132 : FnI Tryz.prog 132 := ⟨by kernel_rfl⟩
instance fn_133 : FnI Tryz.prog 133 := ⟨by kernel_rfl⟩
instance fn_134 : FnI Tryz.prog 134 := ⟨by kernel_rfl⟩
instance fn_135 : FnI Tryz.prog 135 := ⟨by kernel_rfl⟩
instance fn_137 : FnI Tryz.prog 137 := ⟨by kernel_rfl⟩
instance fn_138 : FnI Tryz.prog 138 := ⟨by kernel_rfl⟩
instance fn_146 : FnI Tryz.prog 146 := ⟨by kernel_rfl⟩
instance fn_147 : FnI Tryz.prog 147 := ⟨by kernel_rfl⟩
instance fn_148 : FnI Tryz.prog 148 := ⟨by kernel_rfl⟩
instance fn_149 : FnI Tryz.prog 149 := ⟨by kernel_rfl⟩
instance fn_150 : FnI Tryz.prog 150 := ⟨by kernel_rfl⟩
instance fn_151 : FnI Tryz.prog 151 := ⟨by kernel_rfl⟩
instance fn_152 : FnI Tryz.prog 152 := ⟨by kernel_rfl⟩
instance fn_153 : FnI Tryz.prog 153 := ⟨by kernel_rfl⟩
instance fn_154 : FnI Tryz.prog 154 := ⟨by kernel_rfl⟩
instance fn_155 : FnI Tryz.prog 155 := ⟨by kernel_rfl⟩
instance fn_158 : FnI Tryz.prog 158 := ⟨by kernel_rfl⟩
instance fn_159 : FnI Tryz.prog 159 := ⟨by kernel_rfl⟩
instance fn_164 : FnI Tryz.prog 164 := ⟨by kernel_rfl⟩
instance fn_170 : FnI Tryz.prog 170 := ⟨by kernel_rfl⟩
instance fn_171 : FnI Tryz.prog 171 := ⟨by kernel_rfl⟩
instance fn_172 : FnI Tryz.prog 172 := ⟨by kernel_rfl⟩
instance fn_173 : FnI Tryz.prog 173 := ⟨by kernel_rfl⟩
instance fn_174 : FnI Tryz.prog 174 := ⟨by kernel_rfl⟩
instance fn_175 : FnI Tryz.prog 175 := ⟨by kernel_rfl⟩
instance fn_176 : FnI Tryz.prog 176 := ⟨by kernel_rfl⟩
instance fn_177 : FnI Tryz.prog 177 := ⟨by kernel_rfl⟩
instance fn_178 : FnI Tryz.prog 178 := ⟨by kernel_rfl⟩
instance fn_179 : FnI Tryz.prog 179 := ⟨by kernel_rfl⟩
instance fn_180 : FnI Tryz.prog 180 := ⟨by kernel_rfl⟩
instance fn_181 : FnI Tryz.prog 181 := ⟨by kernel_rfl⟩
instance fn_182 : FnI Tryz.prog 182 := ⟨by kernel_rfl⟩
instance fn_190 : FnI Tryz.prog 190 := ⟨by kernel_rfl⟩
instance fn_191 : FnI Tryz.prog 191 := ⟨by kernel_rfl⟩
instance fn_192 : FnI Tryz.prog 192 := ⟨by kernel_rfl⟩
instance fn_193 : FnI Tryz.prog 193 := ⟨by kernel_rfl⟩
instance fn_194 : FnI Tryz.prog 194 := ⟨by kernel_rfl⟩
instance fn_197 : FnI Tryz.prog 197 := ⟨by kernel_rfl⟩
instance fn_198 : FnI Tryz.prog 198 := ⟨by kernel_rfl⟩
instance fn_199 : FnI Tryz.prog 199 := ⟨by kernel_rfl⟩
instance uI_4 : UndI Tryz.prog 4 (.bool) := ⟨@Tryz.underlying4⟩
theorem und_4 : Tryz.prog.underlying 4 = some (.bool) := UndI.h
instance uI_9 : UndI Tryz.prog 9 (.string) := ⟨@Tryz.underlying9⟩
theorem und_9 : Tryz.prog.underlying 9 = some (.string) := UndI.h
instance uI_10 : UndI Tryz.prog 10 (.string) := ⟨@Tryz.underlying10⟩
instance uI_11 : UndI Tryz.prog 11 (.string) := ⟨@Tryz.underlying11⟩
instance uI_24 : UndI Tryz.prog 24 (.slice 121) := ⟨@Tryz.underlying24⟩
instance uI_30 : UndI Tryz.prog 30 (.slice 67) := ⟨@Tryz.underlying30⟩
instance uI_40 : UndI Tryz.prog 40 (.slice 5) := ⟨@Tryz.underlying40⟩
theorem und_40 : Tryz.prog.underlying 40 = some (.slice 5) := UndI.h
instance uI_42 : UndI Tryz.prog 42 (.slice 2) := ⟨@Tryz.underlying42⟩
theorem und_42 : Tryz.prog.underlying 42 = some (.slice 2) := UndI.h
instance uI_54 : UndI Tryz.prog 54 (.slice 58) := ⟨@Tryz.underlying54⟩
instance uI_72 : UndI Tryz.prog 72 (.slice 9) := ⟨@Tryz.underlying72⟩
instance uI_119 : UndI Tryz.prog 119 (.slice 218) := ⟨@Tryz.underlying119⟩
instance uI_131 : UndI Tryz.prog 131 (.slice 190) := ⟨@Tryz.underlying131⟩
instance uI_147 : UndI Tryz.prog 147 (.slice 150) := ⟨@Tryz.underlying147⟩
instance uI_186 : UndI Tryz.prog 186 (.slice 4) := ⟨@Tryz.underlying186⟩
instance mixI : MixI Tryz.prog := ⟨by kernel_rfl⟩
@[reducible] def cRules (x : M.Rul) : List Ty := [Ty.int x.pits, Ty.int x.seeds, Ty.bool x.stores, Ty.bool x.skip, Ty.bool x.relay, Ty.bool x.feed, Ty.bool x.again, Ty.int x.capture, Ty.int x.slam]
def lRules (xs : List M.Rul) : List Ty := xs.flatMap cRules
theorem lRules_length (xs : List M.Rul) : (lRules xs).length = xs.length * 9 := flat_len cRules 9 (fun _ => rfl) xs
instance : LenL lRules 9 := ⟨lRules_length⟩
@[reducible] def cPosition (x : M.Pos) : List Ty := [Ty.ints 2 x.pits, Ty.ints 2 x.stores, Ty.int x.player]
def lPosition (xs : List M.Pos) : List Ty := xs.flatMap cPosition
theorem lPosition_length (xs : List M.Pos) : (lPosition xs).length = xs.length * 3 := flat_len cPosition 3 (fun _ => rfl) xs
instance : LenL lPosition 3 := ⟨lPosition_length⟩
@[reducible] def cSown (x : M.Sw) : List Ty := [Ty.ints 2 x.pits, Ty.ints 2 x.stores, Ty.int x.last, Ty.int x.laps]
def lSown (xs : List M.Sw) : List Ty := xs.flatMap cSown
theorem lSown_length (xs : List M.Sw) : (lSown xs).length = xs.length * 4 := flat_len cSown 4 (fun _ => rfl) xs
instance : LenL lSown 4 := ⟨lSown_length⟩
@[reducible] def csowing (x : M.Sow) : List Ty := [Ty.int x.rules.pits, Ty.int x.rules.seeds, Ty.bool x.rules.stores, Ty.bool x.rules.skip, Ty.bool x.rules.relay, Ty.bool x.rules.feed, Ty.bool x.rules.again, Ty.int x.rules.capture, Ty.int x.rules.slam, Ty.int x.player, Ty.ints 2 x.sown.pits, Ty.ints 2 x.sown.stores, Ty.int x.sown.last, Ty.int x.sown.laps, Ty.ints 2 x.path]
theorem ref_sowing {u : World} {v : Value} {x : M.Sow} (h : (Ty.ref (csowing x)).ok u v) : ∃ b o A10 c10 A11 c11 A14 c14, v = .pointer (some ⟨b, o, none⟩) ∧ RowAt u b o [.int .i64 x.rules.pits, .int .i64 x.rules.seeds, .bool x.rules.stores, .bool x.rules.skip, .bool x.rules.relay, .bool x.rules.feed, .bool x.rules.again, .int .i64 x.rules.capture, .int .i64 x.rules.slam, .int .i64 x.player, .slice A10 x.sown.pits.length c10, .slice A11 x.sown.stores.length c11, .int .i64 x.sown.last, .int .i64 x.sown.laps, .slice A14 x.path.length c14] ∧ (Ty.ints 2 x.sown.pits).ok u (.slice A10 x.sown.pits.length c10) ∧ (Ty.ints 2 x.sown.stores).ok u (.slice A11 x.sown.stores.length c11) ∧ (Ty.ints 2 x.path).ok u (.slice A14 x.path.length c14) ∧ x.sown.pits.length ≤ c10 ∧ c10 ≤ 9223372036854775807 ∧ x.sown.stores.length ≤ c11 ∧ c11 ≤ 9223372036854775807 ∧ x.path.length ≤ c14 ∧ c14 ≤ 9223372036854775807 := by
  obtain ⟨b, o, vs, rfl, h, hr⟩ := h
  obtain ⟨x0, r, rfl, h0, h⟩ := cellsOk_cons h
  obtain ⟨x1, r, rfl, h1, h⟩ := cellsOk_cons h
  obtain ⟨x2, r, rfl, h2, h⟩ := cellsOk_cons h
  obtain ⟨x3, r, rfl, h3, h⟩ := cellsOk_cons h
  obtain ⟨x4, r, rfl, h4, h⟩ := cellsOk_cons h
  obtain ⟨x5, r, rfl, h5, h⟩ := cellsOk_cons h
  obtain ⟨x6, r, rfl, h6, h⟩ := cellsOk_cons h
  obtain ⟨x7, r, rfl, h7, h⟩ := cellsOk_cons h
  obtain ⟨x8, r, rfl, h8, h⟩ := cellsOk_cons h
  obtain ⟨x9, r, rfl, h9, h⟩ := cellsOk_cons h
  obtain ⟨x10, r, rfl, h10, h⟩ := cellsOk_cons h
  obtain ⟨x11, r, rfl, h11, h⟩ := cellsOk_cons h
  obtain ⟨x12, r, rfl, h12, h⟩ := cellsOk_cons h
  obtain ⟨x13, r, rfl, h13, h⟩ := cellsOk_cons h
  obtain ⟨x14, r, rfl, h14, h⟩ := cellsOk_cons h
  obtain rfl := cellsOk_nil h
  obtain rfl : x0 = .int .i64 x.rules.pits := h0
  obtain rfl : x1 = .int .i64 x.rules.seeds := h1
  obtain rfl : x2 = .bool x.rules.stores := h2
  obtain rfl : x3 = .bool x.rules.skip := h3
  obtain rfl : x4 = .bool x.rules.relay := h4
  obtain rfl : x5 = .bool x.rules.feed := h5
  obtain rfl : x6 = .bool x.rules.again := h6
  obtain rfl : x7 = .int .i64 x.rules.capture := h7
  obtain rfl : x8 = .int .i64 x.rules.slam := h8
  obtain rfl : x9 = .int .i64 x.player := h9
  obtain ⟨A10, c10, rfl, b10, d10⟩ := sl_form h10
  obtain ⟨A11, c11, rfl, b11, d11⟩ := sl_form h11
  obtain rfl : x12 = .int .i64 x.sown.last := h12
  obtain rfl : x13 = .int .i64 x.sown.laps := h13
  obtain ⟨A14, c14, rfl, b14, d14⟩ := sl_form h14
  exact ⟨b, o, A10, c10, A11, c11, A14, c14, rfl, hr, h10, h11, h14, b10, d10, b11, d11, b14, d14⟩
def lsowing (xs : List M.Sow) : List Ty := xs.flatMap csowing
theorem lsowing_length (xs : List M.Sow) : (lsowing xs).length = xs.length * 15 := flat_len csowing 15 (fun _ => rfl) xs
instance : LenL lsowing 15 := ⟨lsowing_length⟩
@[reducible] def cResult (x : M.Res) : List Ty := [Ty.int x.move, Ty.int x.gain, Ty.bool x.again, Ty.ints 2 x.next.pits, Ty.ints 2 x.next.stores, Ty.int x.next.player]
def lResult (xs : List M.Res) : List Ty := xs.flatMap cResult
theorem lResult_length (xs : List M.Res) : (lResult xs).length = xs.length * 6 := flat_len cResult 6 (fun _ => rfl) xs
instance : LenL lResult 6 := ⟨lResult_length⟩
@[reducible] def cResultL (x : M.Res) : List Ty := [Ty.int x.move, Ty.int x.gain, Ty.bool x.again, Ty.any, Ty.any, Ty.any]
def lResultL (xs : List M.Res) : List Ty := xs.flatMap cResultL
theorem lResultL_length (xs : List M.Res) : (lResultL xs).length = xs.length * 6 := flat_len cResultL 6 (fun _ => rfl) xs
instance : LenL lResultL 6 := ⟨lResultL_length⟩
@[reducible] def cChoice (x : M.Cho) : List Ty := [Ty.int x.move, Ty.int x.games, Ty.int x.score]
def lChoice (xs : List M.Cho) : List Ty := xs.flatMap cChoice
theorem lChoice_length (xs : List M.Cho) : (lChoice xs).length = xs.length * 3 := flat_len cChoice 3 (fun _ => rfl) xs
instance : LenL lChoice 3 := ⟨lChoice_length⟩
theorem elem_Choice {u : World} {e c i : Nat} {A : Option Addr} {xs : List M.Cho} {x : M.Cho} (h : (Ty.sl e 3 xs.length (lChoice xs)).ok u (.slice A xs.length c)) (hi : xs[i]? = some x) : ∃ b o, elemA 3 (.slice A xs.length c) i = some ⟨b, o, none⟩ ∧ RowAt u b o [.int .i64 x.move, .int .i64 x.games, .int .i64 x.score] := by
  obtain ⟨b, o, vs, he, h, hr⟩ := sl_elem h (List.getElem?_eq_some_iff.1 hi).1 rfl
  have e := drop_flat cChoice 3 (fun _ => rfl) xs i x hi
  unfold lChoice at h
  rw [e] at h
  obtain ⟨x0, r, rfl, h0, h⟩ := cellsOk_cons h
  obtain ⟨x1, r, rfl, h1, h⟩ := cellsOk_cons h
  obtain ⟨x2, r, rfl, h2, h⟩ := cellsOk_cons h
  obtain rfl := cellsOk_nil h
  obtain rfl : x0 = .int .i64 x.move := h0
  obtain rfl : x1 = .int .i64 x.games := h1
  obtain rfl : x2 = .int .i64 x.score := h2
  exact ⟨b, o, he, hr⟩
@[reducible] def vcChoice (x : M.Cho) : List Value := [.int .i64 x.move, .int .i64 x.games, .int .i64 x.score]
instance flt_Choice : FltL lChoice vcChoice 3 := flt_mk cChoice vcChoice 3 (fun w x => ⟨[], [], rfl, ⟨rfl, rfl⟩, ⟨[], [], rfl, ⟨rfl, rfl⟩, ⟨[], [], rfl, ⟨rfl, rfl⟩, rfl⟩⟩⟩) (fun w x vs f h => by
    obtain ⟨x0, r0, g0, q0, rfl, rfl, ⟨rfl, rfl⟩, h0⟩ := cellsOwn_cons h
    obtain ⟨x1, r1, g1, q1, rfl, rfl, ⟨rfl, rfl⟩, h1⟩ := cellsOwn_cons h0
    obtain ⟨x2, r2, g2, q2, rfl, rfl, ⟨rfl, rfl⟩, h2⟩ := cellsOwn_cons h1
    obtain ⟨rfl, rfl⟩ := cellsOwn_nil h2
    exact ⟨rfl, rfl⟩) (fun w x vs h => by
    obtain ⟨x0, r, rfl, h0, h⟩ := cellsOk_cons h
    obtain ⟨x1, r, rfl, h1, h⟩ := cellsOk_cons h
    obtain ⟨x2, r, rfl, h2, h⟩ := cellsOk_cons h
    obtain rfl := cellsOk_nil h
    obtain rfl : x0 = .int .i64 x.move := h0
    obtain rfl : x1 = .int .i64 x.games := h1
    obtain rfl : x2 = .int .i64 x.score := h2
    rfl) (fun _ => rfl) (fun _ => rfl) (fun _ => rfl) (by decide)
@[reducible] def cProblem (x : M.Prb) : List Ty := [Ty.int x.kind, Ty.int x.at1, Ty.str x.word]
def lProblem (xs : List M.Prb) : List Ty := xs.flatMap cProblem
theorem lProblem_length (xs : List M.Prb) : (lProblem xs).length = xs.length * 3 := flat_len cProblem 3 (fun _ => rfl) xs
instance : LenL lProblem 3 := ⟨lProblem_length⟩
@[reducible] def vcProblem (x : M.Prb) : List Value := [.int .i64 x.kind, .int .i64 x.at1, .string (sB x.word)]
instance flt_Problem : FltL lProblem vcProblem 3 := flt_mk cProblem vcProblem 3 (fun w x => ⟨[], [], rfl, ⟨rfl, rfl⟩, ⟨[], [], rfl, ⟨rfl, rfl⟩, ⟨[], [], rfl, ⟨rfl, rfl⟩, rfl⟩⟩⟩) (fun w x vs f h => by
    obtain ⟨x0, r0, g0, q0, rfl, rfl, ⟨rfl, rfl⟩, h0⟩ := cellsOwn_cons h
    obtain ⟨x1, r1, g1, q1, rfl, rfl, ⟨rfl, rfl⟩, h1⟩ := cellsOwn_cons h0
    obtain ⟨x2, r2, g2, q2, rfl, rfl, ⟨rfl, rfl⟩, h2⟩ := cellsOwn_cons h1
    obtain ⟨rfl, rfl⟩ := cellsOwn_nil h2
    exact ⟨rfl, rfl⟩) (fun w x vs h => by
    obtain ⟨x0, r, rfl, h0, h⟩ := cellsOk_cons h
    obtain ⟨x1, r, rfl, h1, h⟩ := cellsOk_cons h
    obtain ⟨x2, r, rfl, h2, h⟩ := cellsOk_cons h
    obtain rfl := cellsOk_nil h
    obtain rfl : x0 = .int .i64 x.kind := h0
    obtain rfl : x1 = .int .i64 x.at1 := h1
    obtain rfl : x2 = .string (sB x.word) := h2
    rfl) (fun _ => rfl) (fun _ => rfl) (fun _ => rfl) (by decide)
@[reducible] def cbool (x : Bool) : List Ty := [Ty.bool x]
def lbool (xs : List Bool) : List Ty := xs.flatMap cbool
theorem lbool_length (xs : List Bool) : (lbool xs).length = xs.length * 1 := flat_len cbool 1 (fun _ => rfl) xs
instance : LenL lbool 1 := ⟨lbool_length⟩
@[reducible] def vcbool (x : Bool) : List Value := [.bool x]
instance flt_bool : FltL lbool vcbool 1 := flt_mk cbool vcbool 1 (fun w x => ⟨[], [], rfl, ⟨rfl, rfl⟩, rfl⟩) (fun w x vs f h => by
    obtain ⟨x0, r0, g0, q0, rfl, rfl, ⟨rfl, rfl⟩, h0⟩ := cellsOwn_cons h
    obtain ⟨rfl, rfl⟩ := cellsOwn_nil h0
    exact ⟨rfl, rfl⟩) (fun w x vs h => by
    obtain ⟨x0, r, rfl, h0, h⟩ := cellsOk_cons h
    obtain rfl := cellsOk_nil h
    obtain rfl : x0 = .bool x := h0
    rfl) (fun _ => rfl) (fun _ => rfl) (fun _ => rfl) (by decide)
@[reducible] def cBookEntry (x : M.Ent) : List Ty := [Ty.ints 2 x.pits, Ty.sl 58 3 x.choices.length (lChoice x.choices)]
def lBookEntry (xs : List M.Ent) : List Ty := xs.flatMap cBookEntry
theorem lBookEntry_length (xs : List M.Ent) : (lBookEntry xs).length = xs.length * 2 := flat_len cBookEntry 2 (fun _ => rfl) xs
instance : LenL lBookEntry 2 := ⟨lBookEntry_length⟩
theorem elem_BookEntry {u : World} {e c i : Nat} {A : Option Addr} {xs : List M.Ent} {x : M.Ent} (h : (Ty.sl e 2 xs.length (lBookEntry xs)).ok u (.slice A xs.length c)) (hi : xs[i]? = some x) : ∃ b o A0 c0 A1 c1, elemA 2 (.slice A xs.length c) i = some ⟨b, o, none⟩ ∧ RowAt u b o [.slice A0 x.pits.length c0, .slice A1 x.choices.length c1] ∧ (Ty.ints 2 x.pits).ok u (.slice A0 x.pits.length c0) ∧ (Ty.sl 58 3 x.choices.length (lChoice x.choices)).ok u (.slice A1 x.choices.length c1) ∧ x.pits.length ≤ c0 ∧ c0 ≤ 9223372036854775807 ∧ x.choices.length ≤ c1 ∧ c1 ≤ 9223372036854775807 := by
  obtain ⟨b, o, vs, he, h, hr⟩ := sl_elem h (List.getElem?_eq_some_iff.1 hi).1 rfl
  have e := drop_flat cBookEntry 2 (fun _ => rfl) xs i x hi
  unfold lBookEntry at h
  rw [e] at h
  obtain ⟨x0, r, rfl, h0, h⟩ := cellsOk_cons h
  obtain ⟨x1, r, rfl, h1, h⟩ := cellsOk_cons h
  obtain rfl := cellsOk_nil h
  obtain ⟨A0, c0, rfl, b0, d0⟩ := sl_form h0
  obtain ⟨A1, c1, rfl, b1, d1⟩ := sl_form h1
  exact ⟨b, o, A0, c0, A1, c1, he, hr, h0, h1, b0, d0, b1, d1⟩
theorem elemv_BookEntry {w : World} {i : Nat} {xs : List M.Ent} {x : M.Ent} {vs : List Value} (h : cellsOk w (lBookEntry xs) vs) (hi : xs[i]? = some x) : ∃ A0 c0 A1 c1, (vs.drop (0 + i * 2)).take 2 = [.slice A0 x.pits.length c0, .slice A1 x.choices.length c1] ∧ x.pits.length ≤ c0 ∧ c0 ≤ 9223372036854775807 ∧ x.choices.length ≤ c1 ∧ c1 ≤ 9223372036854775807 := by
  rw [Nat.zero_add]
  have h := cellsOk.take 2 (cellsOk.drop (i * 2) h)
  rw [lBookEntry, drop_flat cBookEntry 2 (fun _ => rfl) xs i x hi] at h
  generalize (vs.drop (i * 2)).take 2 = vs at h ⊢
  obtain ⟨x0, r, rfl, h0, h⟩ := cellsOk_cons h
  obtain ⟨x1, r, rfl, h1, h⟩ := cellsOk_cons h
  obtain rfl := cellsOk_nil h
  obtain ⟨A0, c0, rfl, b0, d0⟩ := sl_form h0
  obtain ⟨A1, c1, rfl, b1, d1⟩ := sl_form h1
  exact ⟨A0, c0, A1, c1, rfl, b0, d0, b1, d1⟩
theorem zown_BookEntry (w : World) : cellsOwn w (cBookEntry M.Ent.zero) [.slice none 0 0, .slice none 0 0] [] := ⟨[], [], rfl, nil_own, ⟨[], [], rfl, snil_own lChoice (e := 58) (sz := 3) (xs := []) rfl, rfl⟩⟩
@[reducible] def cBook (x : M.Boo) : List Ty := [Ty.int x.rules.pits, Ty.int x.rules.seeds, Ty.bool x.rules.stores, Ty.bool x.rules.skip, Ty.bool x.rules.relay, Ty.bool x.rules.feed, Ty.bool x.rules.again, Ty.int x.rules.capture, Ty.int x.rules.slam, Ty.sl 67 2 x.entries.length (lBookEntry x.entries)]
def lBook (xs : List M.Boo) : List Ty := xs.flatMap cBook
theorem lBook_length (xs : List M.Boo) : (lBook xs).length = xs.length * 10 := flat_len cBook 10 (fun _ => rfl) xs
instance : LenL lBook 10 := ⟨lBook_length⟩
@[reducible] def cPositionL (x : M.Pos) : List Ty := [Ty.rx 2 x.pits, Ty.ints 2 x.stores, Ty.int x.player]
def lPositionL (xs : List M.Pos) : List Ty := xs.flatMap cPositionL
theorem lPositionL_length (xs : List M.Pos) : (lPositionL xs).length = xs.length * 3 := flat_len cPositionL 3 (fun _ => rfl) xs
instance : LenL lPositionL 3 := ⟨lPositionL_length⟩
@[reducible] def cGameL (x : M.Gam) : List Ty := [Ty.int x.rules.pits, Ty.int x.rules.seeds, Ty.bool x.rules.stores, Ty.bool x.rules.skip, Ty.bool x.rules.relay, Ty.bool x.rules.feed, Ty.bool x.rules.again, Ty.int x.rules.capture, Ty.int x.rules.slam, Ty.ints 2 x.start.pits, Ty.ints 2 x.start.stores, Ty.int x.start.player, Ty.ro 2 x.moves, Ty.ints 2 x.now.pits, Ty.ints 2 x.now.stores, Ty.int x.now.player, Ty.int x.resigned]
def lGameL (xs : List M.Gam) : List Ty := xs.flatMap cGameL
theorem lGameL_length (xs : List M.Gam) : (lGameL xs).length = xs.length * 17 := flat_len cGameL 17 (fun _ => rfl) xs
instance : LenL lGameL 17 := ⟨lGameL_length⟩
@[reducible] def cGame (x : M.Gam) : List Ty := [Ty.int x.rules.pits, Ty.int x.rules.seeds, Ty.bool x.rules.stores, Ty.bool x.rules.skip, Ty.bool x.rules.relay, Ty.bool x.rules.feed, Ty.bool x.rules.again, Ty.int x.rules.capture, Ty.int x.rules.slam, Ty.ints 2 x.start.pits, Ty.ints 2 x.start.stores, Ty.int x.start.player, Ty.ints 2 x.moves, Ty.ints 2 x.now.pits, Ty.ints 2 x.now.stores, Ty.int x.now.player, Ty.int x.resigned]
def lGame (xs : List M.Gam) : List Ty := xs.flatMap cGame
theorem lGame_length (xs : List M.Gam) : (lGame xs).length = xs.length * 17 := flat_len cGame 17 (fun _ => rfl) xs
instance : LenL lGame 17 := ⟨lGame_length⟩
open Go.RowKit Go.ChangeShapes Go.WideShapes Go.ChangeAt
theorem cell_of {w : World} {b o : Nat} {x : Value} (h : w.cell? ⟨b, o, none⟩ = some x) : Cell w b o x := by
  unfold World.cell? at h
  split at h
  · rename_i c t f hb
    exact ⟨c, t, f, hb, by simpa using h⟩
  all_goals simp at h
section
variable {H : Type} {enc : TypeId × Value → H} {w : World} {spare : Nat → Bool} {held : Bool} {fuel : Nat} {x : DataW H × List MemPlace} {cs : List Value}
theorem rd_cat {Ts Us : List Ty} (a s : Nat) (h1 : cellsOk w Ts ((cs.drop a).take s)) (h2 : cellsOk w Us (cs.drop (a + s))) : cellsOk w (Ts ++ Us) (cs.drop a) := by
  have := h1.append h2
  rwa [← List.drop_drop, List.take_append_drop] at this
theorem rd_end {n : Nat} (h : cs.length = n) : cellsOk w [] (cs.drop n) := by rw [List.drop_eq_nil_of_le (by omega)]; trivial
theorem rd_int {P : Program} {t : TypeId} (ht : P.underlying t = some (.int .i64)) (h : DataW.trod enc P w 0 spare held fuel t cs = some x) : ∃ n : Int, cellsOk w [Ty.int n] cs := by
  obtain ⟨n, rfl, _, _⟩ := DataW.trod_int ht h
  exact ⟨n, rfl, trivial⟩
theorem rd_bool {P : Program} {t : TypeId} (ht : P.underlying t = some .bool) (h : DataW.trod enc P w 0 spare held fuel t cs = some x) : ∃ b : Bool, cellsOk w [Ty.bool b] cs := by
  obtain ⟨b, rfl, _⟩ := DataW.trod_bool ht h
  exact ⟨b, rfl, trivial⟩
theorem rd_ints {P : Program} {t e : TypeId} (ht : P.underlying t = some (.slice e)) (he : P.underlying e = some (.int .i64)) (hc : P.cellsOf e = 1) (h : DataW.trod enc P w 0 spare held fuel t cs = some x) : ∃ xs : List Int, cellsOk w [Ty.ints e xs] cs := by
  rcases open_ints ht he hc h with ⟨rfl, _⟩ | ⟨a, len, cap, zs, rfl, _, hl, hm, hz, _, hcell, _⟩
  · exact ⟨[], nil_ok, trivial⟩
  · have hlz : len ≤ zs.length := by rw [hz]; split <;> omega
    have hlen : (zs.take len).length = len := by simp; omega
    refine ⟨zs.take len, ⟨by simp, some a, cap, ints_ (zs.take len), by rw [hlen], by rw [hlen]; exact hl, hm, (ints_own w _).ok, fun hp => ?_⟩, trivial⟩
    have hp : 0 < len := by rw [List.length_map, hlen] at hp; exact hp
    obtain ⟨b, off, spot⟩ := a
    have hspot : spot = none := by simpa [Addr.add] using World.cell?_spot (hcell 0 (by omega))
    subst hspot
    refine ⟨b, off, rfl, fun j v hj => ?_⟩
    simp only [ints_, List.getElem?_map, Option.map_eq_some_iff] at hj
    obtain ⟨n, hn, rfl⟩ := hj
    rw [List.getElem?_take] at hn
    split at hn
    · rename_i hjl
      have := hcell j (by omega)
      rw [addr_add] at this
      have e : zs.getD j 0 = n := by simp [List.getD, hn]
      rw [e] at this
      exact cell_of this
    · simp at hn
end
section
variable {H : Type} {enc : TypeId × Value → H} {w : World} {spare : Nat → Bool} {held : Bool} {fuel : Nat} {x : DataW H × List MemPlace} {cs : List Value}
end
section
variable {H : Type} {enc : TypeId × Value → H} {w : World} {spare : Nat → Bool} {held : Bool} {fuel : Nat} {x : DataW H × List MemPlace} {cs : List Value}
theorem RowAt.app {b o : Nat} {vs us : List Value} (h : RowAt w b o vs) (k : RowAt w b (o + vs.length) us) : RowAt w b o (vs ++ us) := fun j v hj => by
  rw [List.getElem?_append] at hj
  split at hj
  · exact h j v hj
  · rename_i hlt
    have := k (j - vs.length) v hj
    rwa [show o + vs.length + (j - vs.length) = o + j by omega] at this
theorem rd_sl {P : Program} {t e e' : TypeId} {α : Type} (F : α → List Ty) {sz : Nat} (ht : P.underlying t = some (.slice e)) (hc : P.cellsOf e = sz) (hsz : 0 < sz) (hF : ∀ x, (F x).length = sz)
    (rd : ∀ {fuel : Nat} {cs : List Value} {x : DataW H × List MemPlace}, DataW.trod enc P w 0 spare held fuel e cs = some x → ∃ m : α, cellsOk w (F m) cs)
    (h : DataW.trod enc P w 0 spare held fuel t cs = some x) : ∃ xs : List α, cellsOk w [Ty.sl e' sz xs.length (xs.flatMap F)] cs := by
  rcases DataW.trod_slice ht h with ⟨rfl, _⟩ | ⟨a, len, cap, elems, rest, n, _, rfl, _, _, hl, hm, hlen, hel, _, _⟩
  · exact ⟨[], ⟨by simp, none, 0, [], rfl, Nat.le_refl _, by unfold maxLen; omega, trivial, fun hp => by simp at hp⟩, trivial⟩
  · rw [hc] at hel
    have each : ∀ i, i < len → ∃ (m : α) (vs : List Value), cellsOk w (F m) vs ∧ vs.length = sz ∧ ∀ j v, vs[j]? = some v → w.cell? ((a.add (i * sz)).add j) = some v := fun i hi => by
      have h1 := hel i hi
      obtain ⟨y, hy⟩ : ∃ y, elems[i]? = some y := ⟨_, List.getElem?_eq_getElem (by omega)⟩
      rw [hy, Option.bind_eq_some_iff] at h1
      obtain ⟨vs, hvs, htr⟩ := h1
      obtain ⟨m, hmv⟩ := rd htr
      obtain ⟨_, hlv, hg⟩ := World.cells?_some hvs
      exact ⟨m, vs, hmv, hlv, fun j v hj => by
        have hjl := (List.getElem?_eq_some_iff.1 hj).1
        rw [hg j (by omega)]; exact hj⟩
    by_cases h0 : len = 0
    · subst h0
      exact ⟨[], ⟨by simp, some a, cap, [], rfl, Nat.zero_le _, hm, trivial, fun hp => by simp at hp⟩, trivial⟩
    · obtain ⟨b, off, spot⟩ := a
      obtain ⟨m0, v0, _, hl0, hc0⟩ := each 0 (by omega)
      have hspot : spot = none := by
        obtain ⟨y, hy⟩ : ∃ y, v0[0]? = some y := ⟨_, List.getElem?_eq_getElem (by omega)⟩
        have := World.cell?_spot (hc0 0 y hy)
        simpa [Addr.add] using this
      subst hspot
      have all : ∀ k, k ≤ len → ∃ (xs : List α) (vs : List Value), xs.length = k ∧ cellsOk w (xs.flatMap F) vs ∧ vs.length = k * sz ∧ RowAt w b off vs := fun k => by
        induction k with
        | zero => exact fun _ => ⟨[], [], rfl, trivial, by simp, RowAt.nil⟩
        | succ k ih =>
          intro hk
          obtain ⟨xs, vs, hx, hcs, hvl, hr⟩ := ih (by omega)
          obtain ⟨m, us, hmu, hul, hcu⟩ := each k (by omega)
          refine ⟨xs ++ [m], vs ++ us, by simp [hx], ?_, by rw [List.length_append, hvl, hul, Nat.succ_mul], hr.app fun j v hj => ?_⟩
          · rw [List.flatMap_append]
            exact hcs.append (by simpa using hmu)
          · have := hcu j v hj
            rw [addr_add, addr_add] at this
            rw [hvl]
            exact cell_of this
      obtain ⟨xs, vs, hx, hcs, hvl, hr⟩ := all len (Nat.le_refl _)
      subst hx
      exact ⟨xs, ⟨flat_len' F sz hF xs, some ⟨b, off, none⟩, cap, vs, rfl, hl, hm, hcs, fun _ => ⟨b, off, rfl, hr⟩⟩, trivial⟩
end
end Go.Proofs.YtjklnidbndopiaaGreatDoor
namespace Go.Proofs.YtjklnidbndopiaaGreatDoor.M
def cmpL : List Int → List Int → Int
  | [], [] => 0
  | [], _ :: _ => -1
  | _ :: _, [] => 1
  | a :: x, b :: y => if a < b then -1 else if b < a then 1 else cmpL x y
theorem cmpL_lt {a b : List Int} {k : Nat} (h : cmpL (a.drop k) (b.drop k) = cmpL a b) (ha : k < a.length) (hb : k < b.length) (hl : nth a k < nth b k) : cmpL a b = -1 := by
  rw [← h, drop_nth ha, drop_nth hb, cmpL, if_pos hl]
theorem cmpL_gt {a b : List Int} {k : Nat} (h : cmpL (a.drop k) (b.drop k) = cmpL a b) (ha : k < a.length) (hb : k < b.length) (hl : nth b k < nth a k) : cmpL a b = 1 := by
  rw [← h, drop_nth ha, drop_nth hb, cmpL, if_neg (by omega), if_pos hl]
theorem cmpL_step {a b : List Int} {k : Nat} (h : cmpL (a.drop k) (b.drop k) = cmpL a b) (ha : k < a.length) (hb : k < b.length) (h1 : ¬ nth a k < nth b k) (h2 : ¬ nth b k < nth a k) : cmpL (a.drop (k + 1)) (b.drop (k + 1)) = cmpL a b := by
  rw [← h, drop_nth ha, drop_nth hb, cmpL, if_neg h1, if_neg h2]
theorem cmpL_end {a b : List Int} {k : Nat} (h : cmpL (a.drop k) (b.drop k) = cmpL a b) (hk : a.length ≤ k ∨ b.length ≤ k) (ha : k ≤ a.length) (hb : k ≤ b.length) : cmpL a b = if a.length < b.length then -1 else if b.length < a.length then 1 else 0 := by
  rw [← h]
  rcases Nat.lt_trichotomy a.length b.length with hl | hl | hl
  · rw [if_pos hl, List.drop_eq_nil_of_le (by omega), drop_nth (by omega)]; rfl
  · rw [if_neg (by omega), if_neg (by omega), List.drop_eq_nil_of_le (by omega), List.drop_eq_nil_of_le (by omega)]; rfl
  · rw [if_neg (by omega), if_pos hl, @List.drop_eq_nil_of_le _ b k (by omega), drop_nth (by omega)]; rfl
@[reducible] def posE (pits : List Int) : Pos := ⟨pits, [0, 0], 0⟩
def chAt (r : Rul) (p : Pos) (cs : List Cho) (k : Nat) : Bool :=
  (decide (k = 0) || decide ((cho cs (k - 1)).move < (cho cs k).move)) && decide ((make r p (cho cs k).move).2 = 0) && betw (cho cs k).games 1 1000000 && betw (cho cs k).score 0 (2 * (cho cs k).games)
def okCs (r : Rul) (p : Pos) (cs : List Cho) : Bool := (List.range cs.length).all (chAt r p cs)
def okE (r : Rul) (e : Ent) : Bool := okP r (posE e.pits) && decide (0 < e.choices.length) && okCs r (posE e.pits) e.choices
def entAt (r : Rul) (es : List Ent) (k : Nat) : Bool := (decide (k = 0) || decide (cmpL (ent es (k - 1)).pits (ent es k).pits < 0)) && okE r (ent es k)
def okB (b : Boo) : Bool := okR b.rules && decide (b.entries.length ≤ 200) && (List.range b.entries.length).all (entAt b.rules b.entries)
def AllB (f : Nat → Bool) (k : Nat) : Prop := ∀ i, i < k → f i = true
theorem AllB.zero (f : Nat → Bool) : AllB f 0 := fun i h => absurd h (by omega)
theorem AllB.step {f : Nat → Bool} {k : Nat} (h : AllB f k) (hk : f k = true) : AllB f (k + 1) := fun i hi => by
  by_cases e : i = k
  · rw [e]; exact hk
  · exact h i (by omega)
theorem all_yes {f : Nat → Bool} {n k : Nat} (h : AllB f k) (hk : n ≤ k) : (List.range n).all f = true := by
  rw [List.all_eq_true]; intro i hi; exact h i (by have := List.mem_range.1 hi; omega)
theorem all_no {f : Nat → Bool} {n k : Nat} (hk : k < n) (h : f k = false) : (List.range n).all f = false := by
  cases e : (List.range n).all f
  · rfl
  · rw [List.all_eq_true] at e; rw [e k (List.mem_range.2 hk)] at h; exact absurd h (by simp)
theorem pred_nat {k : Nat} : ((k : Int) - 1).toNat = k - 1 := by omega
theorem prev_lt (k : Nat) (a b : Int) : (decide (k = 0) || decide (a < b)) = !(decide (0 < (k : Int)) && decide (b ≤ a)) := by
  by_cases hk : k = 0
  · subst hk; simp
  · have h1 : (0 : Int) < (k : Int) := by omega
    rw [decide_eq_false hk, decide_eq_true h1]
    by_cases hab : a < b
    · rw [decide_eq_true hab, decide_eq_false (by omega)]; rfl
    · rw [decide_eq_false hab, decide_eq_true (by omega)]; rfl
theorem chAt_eq (r : Rul) (p : Pos) (cs : List Cho) (k : Nat) : chAt r p cs k = !(((decide (0 < (k : Int)) && decide ((cho cs k).move ≤ (cho cs (((k : Int) - 1).toNat)).move) || !decide ((make r p (cho cs k).move).2 = 0)) || !betw (cho cs k).games 1 1000000) || !betw (cho cs k).score 0 (2 * (cho cs k).games)) := by
  unfold chAt
  rw [prev_lt, pred_nat]
  simp only [Bool.not_or, Bool.not_not]
theorem chAt_yes {r : Rul} {p : Pos} {cs : List Cho} {k : Nat} (h : (((decide (0 < (k : Int)) && decide ((cho cs k).move ≤ (cho cs (((k : Int) - 1).toNat)).move) || !decide ((make r p (cho cs k).move).2 = 0)) || !betw (cho cs k).games 1 1000000) || !betw (cho cs k).score 0 (2 * (cho cs k).games)) = false) : chAt r p cs k = true := by rw [chAt_eq, h]; rfl
theorem chAt_no {r : Rul} {p : Pos} {cs : List Cho} {k : Nat} (h : (((decide (0 < (k : Int)) && decide ((cho cs k).move ≤ (cho cs (((k : Int) - 1).toNat)).move) || !decide ((make r p (cho cs k).move).2 = 0)) || !betw (cho cs k).games 1 1000000) || !betw (cho cs k).score 0 (2 * (cho cs k).games)) = true) : chAt r p cs k = false := by rw [chAt_eq, h]; rfl
theorem chAt_prev {r : Rul} {p : Pos} {cs : List Cho} {k : Nat} (h : (decide (0 < (k : Int)) && decide ((cho cs k).move ≤ (cho cs (((k : Int) - 1).toNat)).move)) = true) : chAt r p cs k = false := chAt_no (by rw [h]; rfl)
def ch18 (cs : List Cho) (k : Nat) : Bool := ((decide (0 < (k : Int)) && decide ((cho cs k).move ≤ (cho cs (((k : Int) - 1).toNat)).move)) || !betw (cho cs k).games 1 1000000) || !betw (cho cs k).score 0 (2 * (cho cs k).games)
theorem chAt_18 {r : Rul} {p : Pos} {cs : List Cho} {k : Nat} (h : ch18 cs k = true) : chAt r p cs k = false := chAt_no (by
  unfold ch18 at h; revert h
  generalize (decide (0 < (k : Int)) && decide ((cho cs k).move ≤ (cho cs (((k : Int) - 1).toNat)).move)) = a
  generalize betw (cho cs k).games 1 1000000 = b
  generalize betw (cho cs k).score 0 (2 * (cho cs k).games) = c
  cases a <;> cases b <;> cases c <;> simp)
theorem chAt_21 {r : Rul} {p : Pos} {cs : List Cho} {k : Nat} (h1 : ¬ (make r p (cho cs k).move).2 = 0) : chAt r p cs k = false := chAt_no (by rw [decide_eq_false h1]; simp)
theorem chAt_all {r : Rul} {p : Pos} {cs : List Cho} {k : Nat} (h : ch18 cs k = false) (h1 : (make r p (cho cs k).move).2 = 0) : chAt r p cs k = true := chAt_yes (by
  rw [decide_eq_true h1]
  unfold ch18 at h; revert h
  generalize (decide (0 < (k : Int)) && decide ((cho cs k).move ≤ (cho cs (((k : Int) - 1).toNat)).move)) = a
  generalize betw (cho cs k).games 1 1000000 = b
  generalize betw (cho cs k).score 0 (2 * (cho cs k).games) = c
  cases a <;> cases b <;> cases c <;> simp)
theorem prev_lt0 (k : Nat) (c : Int) : (decide (k = 0) || decide (c < 0)) = !(decide (0 < (k : Int)) && decide (0 ≤ c)) := prev_lt k c 0
theorem entAt_eq (r : Rul) (es : List Ent) (k : Nat) : entAt r es k = !((decide (0 < (k : Int)) && decide (0 ≤ cmpL (ent es (((k : Int) - 1).toNat)).pits (ent es k).pits)) || !okE r (ent es k)) := by
  unfold entAt
  rw [prev_lt0, pred_nat]
  simp only [Bool.not_or, Bool.not_not]
theorem entAt_yes {r : Rul} {es : List Ent} {k : Nat} (h : ((decide (0 < (k : Int)) && decide (0 ≤ cmpL (ent es (((k : Int) - 1).toNat)).pits (ent es k).pits)) || !okE r (ent es k)) = false) : entAt r es k = true := by rw [entAt_eq, h]; rfl
theorem entAt_no {r : Rul} {es : List Ent} {k : Nat} (h : ((decide (0 < (k : Int)) && decide (0 ≤ cmpL (ent es (((k : Int) - 1).toNat)).pits (ent es k).pits)) || !okE r (ent es k)) = true) : entAt r es k = false := by rw [entAt_eq, h]; rfl
theorem entAt_yes' {r : Rul} {es : List Ent} {k : Nat} (h : (!okE r (ent es k) || (decide (0 < (k : Int)) && decide (0 ≤ cmpL (ent es (((k : Int) - 1).toNat)).pits (ent es k).pits))) = false) : entAt r es k = true := entAt_yes (by rw [Bool.or_comm]; exact h)
theorem entAt_no' {r : Rul} {es : List Ent} {k : Nat} (h : (!okE r (ent es k) || (decide (0 < (k : Int)) && decide (0 ≤ cmpL (ent es (((k : Int) - 1).toNat)).pits (ent es k).pits))) = true) : entAt r es k = false := entAt_no (by rw [Bool.or_comm]; exact h)
theorem okE_p {r : Rul} {e : Ent} (h : okP r (posE e.pits) = false ∨ e.choices.length = 0) : okE r e = false := by
  unfold okE
  rcases h with h | h
  · rw [h]; rfl
  · rw [h]; simp
theorem okE_cs {r : Rul} {e : Ent} (h1 : okP r (posE e.pits) = true) (h2 : e.choices.length ≠ 0) : okE r e = okCs r (posE e.pits) e.choices := by
  unfold okE; rw [h1, decide_eq_true (by omega)]; simp
theorem okB_r {b : Boo} (h : okR b.rules = false ∨ 200 < b.entries.length) : okB b = false := by
  unfold okB
  rcases h with h | h
  · rw [h]; rfl
  · rw [decide_eq_false (by omega)]; simp
theorem okB_es {b : Boo} (h1 : okR b.rules = true) (h2 : b.entries.length ≤ 200) : okB b = (List.range b.entries.length).all (entAt b.rules b.entries) := by
  unfold okB; rw [h1, decide_eq_true h2]; simp
end Go.Proofs.YtjklnidbndopiaaGreatDoor.M
namespace Go.Proofs.YtjklnidbndopiaaGreatDoor
open Go.RowKit
def addO : Value → Nat → Value
  | .pointer (some ⟨b, o, none⟩), k => .pointer (some ⟨b, o + k, none⟩)
  | v, _ => v
theorem flag_get {r : M.Rul} {y : List UInt8} (h : y ∈ M.fNames) :
    [Value.int .i64 r.pits, .int .i64 r.seeds, .bool r.stores, .bool r.skip, .bool r.relay, .bool r.feed, .bool r.again, .int .i64 r.capture, .int .i64 r.slam][0 + M.flagIx y]? = some (.bool (M.flagB r y)) := by
  simp only [M.fNames, List.mem_cons, List.not_mem_nil, or_false] at h
  rcases h with rfl | rfl | rfl | rfl | rfl <;> rfl
instance {n : Int} : LenB (M.capName n) 9 := ⟨M.capName_len n⟩
instance {n : Int} : LenB (M.slamName n) 7 := ⟨M.slamName_len n⟩
instance {r : M.Rul} : LenB (M.rulesT r) 155 := ⟨M.rulesT_len r⟩
instance {a b c : Int} : LenB (M.recLine a b c) 66 := ⟨M.recLine_len a b c⟩
theorem setCells_all {g : Nat} {e : TypeId} {fz : Nat × Nat} : ∀ (vs : List Value) (o : Nat) (w : World) (cur : Array Value), w.heap[g]? = some (.cells cur e fz) →
    (∃ cur', (w.setCells g o vs).heap[g]? = some (.cells cur' e fz) ∧ cur'.size = cur.size) ∧ w.grownBy (w.setCells g o vs) (some g)
  | [], o, w, cur, h => ⟨⟨cur, h, rfl⟩, ⟨rfl, rfl, rfl, Nat.le_refl _, fun _ _ _ => rfl⟩⟩
  | v :: vs, o, w, cur, h => by
    have h1 : (w.setCell ⟨g, o, none⟩ v).heap[g]? = some (.cells (cur.setIfInBounds o v) e fz) := by
      simp [World.setCell, Array.getElem?_modify, h]
    obtain ⟨⟨cur', h2, h3⟩, h4⟩ := setCells_all vs (o + 1) (w.setCell ⟨g, o, none⟩ v) _ h1
    refine ⟨⟨cur', h2, by rw [h3]; simp⟩, ⟨h4.os, h4.tape, h4.output, ?_, fun k hk hn => ?_⟩⟩
    · refine Nat.le_trans ?_ h4.size; simp [World.setCell]
    · rw [World.setCells, h4.block k (by simpa [World.setCell] using hk) hn]
      have : g ≠ k := fun e => hn (by rw [e])
      simp [World.setCell, Array.getElem?_modify, this]
def ownsRowS (w : World) (e : TypeId) (v : Value) (n : Nat) (xs : List Value) : Prop :=
  xs.length = n ∧ ∃ g cap cur fz, v = .slice (some ⟨g, 0, none⟩) n cap ∧ w.heap[g]? = some (.cells cur e fz) ∧ (fz.2 = 0 ∨ cap ≤ fz.1) ∧ n ≤ cap ∧ cap ≤ maxLen ∧ cur.size = cap ∧ cur.toList.take n = xs
def rowS (e : TypeId) (v : Value) (n : Nat) (vs : List Value) (g : List Nat) : Own := ⟨v.ownBlock.toList ++ g, fun w => ownsRowS w e v n vs, fun {w w'} h k => by
  refine ⟨k.1, ?_⟩
  obtain ⟨_, g, cap, cur, fz, rfl, hg, r⟩ := k
  exact ⟨g, cap, cur, fz, rfl, by rw [h g (by simp [Value.ownBlock])]; exact hg, r⟩⟩
theorem ownsRowS.cell {w : World} {e : TypeId} {g n cap : Nat} {xs : List Value} (h : ownsRowS w e (.slice (some ⟨g, 0, none⟩) n cap) n xs) (j : Nat) (u : Value) (hu : xs[j]? = some u) : w.cell? ⟨g, j, none⟩ = some u := by
  obtain ⟨_, g', cap', cur, fz, hv, hg, _, _, _, _, ht⟩ := h
  injection hv with hv _ _
  injection hv with hv
  injection hv with hv _ _
  subst hv
  rw [← ht, List.getElem?_take] at hu
  split at hu
  · simp [World.cell?, hg]; simpa using hu
  · cases hu
section
variable {P : Program}
theorem run_append_S (w : World) (t tx ty e : TypeId) (i : TypeInfo) (z : Value) (ht : P.underlying t = some (.slice e)) (hi : P.info? e = some i) (hz : i.zero = some z) (hsize : i.size = 1) (hzs : z.cells.size = 1)
    (v : Value) (n : Nat) (xs : List Value) (hown : ownsRowS w e v n xs) (x : Value) (m : Nat) (news : List Value) (hs : Src P 1 tx x m news w) (h63 : n + m ≤ maxLen) (hbytes : (n + m) * i.bytes ≤ 140737488355328) :
    ∃ v' w', (Builtin.append_ #[t, tx] ty #[v, x]).run P w = .ok v' w' ∧ ownsRowS w' e v' (n + m) (xs ++ news) ∧ w.grownBy w' v.ownBlock ∧ (v'.ownBlock = v.ownBlock ∨ v'.ownBlock = some w.heap.size) := by
  have hsmall : n + m ≤ 9223372036854775807 := by simp only [maxLen] at h63; omega
  have hs' : Src P i.size tx x m news w := by rw [hsize]; exact hs
  have hnl : news.length = m := by have := hs.newsLen; omega
  have hown0 := hown
  obtain ⟨hxl, g, cap, cur, fz, rfl, hg, hfz, hnc, hcm, hcs, htake⟩ := hown
  have hlen : (xs ++ news).length = n + m := by rw [List.length_append, hxl, hnl]
  by_cases hroom : n + m ≤ cap
  · have hr := run_append_room_src (P := P) w t tx ty e i ht hi g 0 n cap x m news hs' hroom
      (fun j hj => by
        rw [hsize]; simp [World.cell?, hg]; omega)
      (fun j hj => by
        obtain ⟨lo, hi'⟩ := fz
        rw [hsize]
        simp only [World.frozen?, hg, Bool.and_eq_false_iff, decide_eq_false_iff_not]
        simp only at hfz
        rcases hfz with h | h
        · right; omega
        · left; omega)
    obtain ⟨⟨cur', h1, h2⟩, h3⟩ := setCells_all news (0 + n * i.size) w cur hg
    refine ⟨_, _, hr, ⟨hlen, g, cap, cur', fz, rfl, h1, hfz, hroom, hcm, by omega, ?_⟩, h3, .inl rfl⟩
    refine List.ext_getElem? fun j => ?_
    have hcell : ∀ j, cur'.toList[j]? = (w.setCells g (0 + n * i.size) news).cell? ⟨g, j, none⟩ := fun j => by unfold World.cell?; rw [h1]; simp
    rw [List.getElem?_take]
    split
    · rename_i hj
      rw [hcell]
      by_cases hjn : j < n
      · rw [World.cell?_setCells_out g news _ w _ (fun _ _ => .inl (by rw [hsize]; show j < _; omega)), List.getElem?_append_left (by omega)]
        have hx : xs[j]? = some xs[j] := List.getElem?_eq_getElem (by omega)
        rw [hx]; exact hown0.cell j _ hx
      · have := World.cell?_setCells_in g news (0 + n * i.size) w (fun k hk => by
          rw [hsize]; simp [World.cell?, hg]; omega) (j - n) (by omega)
        rw [show 0 + n * i.size + (j - n) = j by rw [hsize]; omega] at this
        rw [this, List.getElem?_append_right (by omega), hxl, List.getElem?_eq_getElem (by omega)]
    · rename_i hj
      rw [List.getElem?_eq_none (by omega)]
  · have hr := run_append_grow_src (P := P) w t tx ty e i z ht hi hz (some ⟨g, 0, none⟩) n cap xs (run_firstCells_some w.drew i.size n _ n cap xs (by rw [hsize]; omega) (fun j u hu => by
        have : (⟨g, 0, none⟩ : Addr).add j = ⟨g, j, none⟩ := by rw [addr_add, Nat.zero_add]
        rw [this]; exact hown0.cell j u hu)) x m news hs' (by omega) (by omega) (growslice_fits (by omega) hbytes)
    have hge := grownCap_ge w (n + m) cap e
    have hcm' : grownCap w (n + m) cap e ≤ maxLen := grownCap_le_maxLen w (n + m) cap e h63
    refine ⟨_, _, hr, ⟨hlen, w.heap.size, _, _, (0, 0), rfl, heap_alloc_new w.drew _, .inl rfl, hge, hcm', ?_, ?_⟩, ⟨rfl, rfl, rfl, by simp, fun k hk _ => Below.heap_alloc w.drew _ k hk⟩, .inr rfl⟩
    · simp only [Array.size_append, List.size_toArray, size_zeroCells, hzs, hlen]; omega
    · simp only [Array.toList_append]
      rw [← hlen]
      exact List.take_left
variable {n lo : Nat} {B : List Nat} {l : Fr} {os : List Own} {u : World} {dst : Option Tmp} {ty : TypeId} {pos : String} {af : Array Edge} {gd : Option (Nat × Bool)}
theorem rowS_form {i m : Nat} {e : TypeId} {v : Value} {vs : List Value} {g : List Nat} (hi : os[i]? = some (rowS e v m vs g)) : ∀ w, St lo B u w os → ∃ A c, v = .slice A m c ∧ m ≤ c ∧ c ≤ 9223372036854775807 := fun w hw => by
  obtain ⟨_, b, c, cur, fz, rfl, _, _, h1, h2, _⟩ := hw.prs _ (List.mem_of_getElem? hi)
  exact ⟨_, _, rfl, h1, by unfold maxLen at h2; omega⟩
theorem e_appendS {x y : Operand} {t tx e : TypeId} {i m k n' by' : Nat} {z xs news vs' : List Value} {v yv : Value} {g : List Nat} (ht : elOf P t = some (e, 1, by', z)) (hzl : Nat.beq z.length 1 = true) (hx : opd l x = some v) (hi : os[i]? = some (rowS e v m xs g)) (hy : opd l y = some yv)
    (hs : ∀ w, St lo B u w os → Src P 1 tx yv k news w) (h63 : m + k ≤ 9223372036854775807) (hb : (m + k) * by' ≤ 140737488355328) (hn' : m + k = n') (hvs : xs ++ news = vs') :
    OpE P n lo B l os u ⟨dst, .call { callee := .builtin .append, args := #[x, y], argTypes := #[t, tx] }, ty, pos, af, gd⟩ false
      (fun v' os' u' => (∃ g', os' = os.set i (rowS e v' n' vs' g')) ∧ u = u') := fun a w ha hw K Q hk => by
  subst hn'; subst hvs
  unfold elOf at ht
  split at ht
  · rename_i e' hu
    split at ht
    · rename_i i' hi'
      split at ht
      · rename_i zv hzz
        simp only [Option.some.injEq, Prod.mk.injEq] at ht
        obtain ⟨rfl, hs1, rfl, rfl⟩ := ht
        have hzl : zv.cells.size = 1 := by simpa [Nat.beq_eq] using hzl
        have hown : ownsRowS w e' v m xs := hw.prs _ (List.mem_of_getElem? hi)
        obtain ⟨v', w', hr, ho', hgr, hat⟩ := run_append_S (P := P) w t tx ty e' i' zv hu hi' hzz hs1 hzl v m xs hown yv k news (hs w hw) (by unfold maxLen; omega) hb
        have hdis : (v.ownBlock.toList ++ g).Nodup := by
          exact nodup_mem hw.dis (List.mem_of_getElem? hi)
        have hlt : ∀ k, v'.ownBlock = some k → k < w'.heap.size := fun k hk => by
          obtain ⟨_, b, _, _, _, rfl, hg, _⟩ := ho'
          simp [Value.ownBlock] at hk; subst hk
          exact (Array.getElem?_eq_some_iff.1 hg).1
        unfold Oper.wp execOp
        simp only [resolve, invoke, builtin, Sem.run_bind, Sem.run_pure, Result.andThen_ok, List.map_toArray, List.map_cons, List.map_nil, ha.eval hx, ha.eval hy, hr]
        rcases Classical.em (v'.ownBlock = v.ownBlock) with he | he
        · refine hk v' _ u w' ⟨⟨g, rfl⟩, rfl⟩ (Up.refl lo u) (hw.upd hi hgr.os hgr.tape hgr.output hgr.size (fun k hk hn => hgr.block k hk fun e => hn (by simp [rowS, ← e])) (fun k hk => .inl (by simpa [rowS, he] using hk)) (by simpa [rowS, he] using hdis) ho' (fun k hk _ => by simpa [rowS, he] using hk)) (fun h => by cases h)
        · have hnew : v'.ownBlock = some w.heap.size := hat.resolve_left he
          refine hk v' _ u w' ⟨⟨v.ownBlock.toList ++ g, rfl⟩, rfl⟩ (Up.refl lo u) (hw.upd hi hgr.os hgr.tape hgr.output hgr.size (fun k hk hn => hgr.block k hk fun e => hn (by simp [rowS, ← e])) (fun k hk => ?_) ?_ ho' (fun k hk _ => by simp only [rowS] at hk ⊢; exact List.mem_append_right _ hk)) (fun h => by cases h)
          · simp only [rowS, hnew, Option.toList_some, List.mem_append, List.mem_singleton] at hk ⊢
            rcases hk with rfl | hk
            · exact .inr ⟨Nat.le_refl _, hlt _ hnew⟩
            · exact .inl hk
          · simp only [rowS, hnew, Option.toList_some]
            rw [List.nodup_append]
            refine ⟨by simp, hdis, fun a' ha' b' hb' e => ?_⟩
            simp only [List.mem_singleton] at ha'
            subst ha'; subst e
            have := (hw.hid _ (List.mem_of_getElem? hi) _ (by simpa [rowS] using hb')).1
            omega
      · simp at ht
    · simp at ht
  · simp at ht
theorem e_toBytes {x : Operand} {src dt e : TypeId} {a0 : List UInt8} {k : Nat} [hl : LenB a0 k] (hs : P.underlying src = some .string) (hd : P.underlying dt = some (.slice e)) (he : P.underlying e = some (.int .u8)) (hx : opd l x = some (.string (sB a0))) (hk9 : Nat.ble k 9223372036854775807 = true := by rfl) :
    OpE P n lo B l os u ⟨dst, .convert src dt x, ty, pos, af, gd⟩ true (fun v' os' u' => os' = rowS e v' a0.length (byt_ a0) [] :: os ∧ u = u') := fun a w ha hw K Q hk => by
  have hkk : k ≤ 9223372036854775807 := by simpa [Nat.ble_eq] using hk9
  have hsz : (sB a0).size = a0.length := by simp [sB, ByteArray.size]
  have hr := run_bytes_of_string (P := P) w src dt e (sB a0) hs hd he
  have hge := grownCap_ge w (sB a0).size 0 e
  have hcm : grownCap w (sB a0).size 0 e ≤ maxLen := grownCap_le_maxLen w _ 0 e (by rw [hsz]; have := hl.h; unfold maxLen; omega)
  have hbs : (bytesRow (sB a0) (grownCap w (sB a0).size 0 e)).size = grownCap w (sB a0).size 0 e := by
    simp only [bytesRow, Array.size_append, Array.size_map, Array.size_replicate]
    have h9 : (sB a0).data.size = a0.length := hsz
    rw [h9]; omega
  unfold Oper.wp execOp
  simp only [ha.eval hx, Sem.run_bind, hr, Result.andThen_ok, Sem.run_pure]
  have hx9 : Ext w (w.drew.alloc (.cells (bytesRow (sB a0) (grownCap w (sB a0).size 0 e)) e ((bytesRow (sB a0) (grownCap w (sB a0).size 0 e)).size, (bytesRow (sB a0) (grownCap w (sB a0).size 0 e)).size + 1))) := by
    refine ⟨rfl, rfl, rfl, ?_, fun a ha => ?_⟩
    · show w.heap.size ≤ (w.heap.push _).size; simp
    · exact Below.heap_alloc w.drew _ a ha
  refine hk _ _ u _ ⟨rfl, rfl⟩ (Up.refl lo u) (St.new (o := rowS e (.slice (some ⟨w.heap.size, 0, none⟩) (sB a0).size (grownCap w (sB a0).size 0 e)) a0.length (byt_ a0) []) hw hx9 (fun k hk => ?_) ?_ ?_) (fun _ => hx9)
  · simp only [rowS, Value.ownBlock, Option.toList_some, List.append_nil, List.mem_singleton] at hk
    subst hk; refine ⟨Nat.le_refl _, ?_⟩; show w.heap.size < (w.heap.push _).size; simp
  · simp [rowS, Value.ownBlock]
  · refine ⟨byt_len _, w.heap.size, _, _, _, by rw [← hsz], heap_alloc_new w.drew _, .inr (by rw [hbs]; exact Nat.le_refl _), by omega, hcm, hbs, ?_⟩
    simp only [bytesRow, Array.toList_append, Array.toList_map]
    show List.take a0.length (byt_ a0 ++ _) = byt_ a0
    exact List.take_left' (byt_len a0)
theorem q_toStrS {x : Operand} {src dt e e' : TypeId} {i m c : Nat} {A : Option Addr} {xs : List UInt8} {g : List Nat} (hs : P.underlying src = some (.slice e)) (he : P.underlying e = some (.int .u8)) (hd : P.underlying dt = some .string)
    (hx : opd l x = some (.slice A m c)) (hi : os[i]? = some (rowS e' (.slice A m c) m (byt_ xs) g)) : OpQ P n lo B l os u ⟨dst, .convert src dt x, ty, pos, af, gd⟩ (.string (sB xs)) := fun a w ha hw => by
  have hp : ownsRowS w e' (.slice A m c) m (byt_ xs) := hw.prs _ (List.mem_of_getElem? hi)
  have hl : m = xs.length := by have := hp.1; rw [byt_len] at this; omega
  subst hl
  have key : (convert src dt (.slice A xs.length c)).run P w = .ok (.string (sB xs)) w := by
    obtain ⟨_, b, c', cur, fz, h2, _⟩ := id hp
    injection h2 with h2 _ h3
    subst h2
    exact run_convert_bytes_back w src dt e ⟨b, 0, none⟩ c xs hs he hd (fun j hj => by
      rw [addr_add, Nat.zero_add]
      exact hp.cell j _ (by simp [byt_, List.getElem?_eq_getElem hj]))
  simp only [execOp, ha.eval hx, Sem.run_bind, key, Result.andThen_ok, Sem.run_pure]
end
end Go.Proofs.YtjklnidbndopiaaGreatDoor
namespace Go.Proofs.YtjklnidbndopiaaGreatDoor.M
def chT (c : Cho) : List UInt8 := [32] ++ dec c.move ++ [47] ++ dec c.games ++ [47] ++ dec c.score
def chsN (cs : List Cho) : Nat → List UInt8
  | 0 => []
  | k + 1 => chsN cs k ++ chT (cho cs k)
def entT (e : Ent) : List UInt8 := (joinT e.pits ++ chsN e.choices e.choices.length) ++ [10]
def booN (r : Rul) (es : List Ent) : Nat → List UInt8
  | 0 => rulesT r ++ [10]
  | k + 1 => booN r es k ++ entT (ent es k)
def booT (b : Boo) : List UInt8 := booN b.rules b.entries b.entries.length
def booTR (b : Boo) : List UInt8 := if okB b = true then booT b else []
theorem booTR_y {b : Boo} (h : okB b = true) : booTR b = booT b := if_pos h
theorem booTR_n {b : Boo} (h : okB b = false) : booTR b = [] := if_neg (by simp [h])
theorem chT_len (c : Cho) : (chT c).length ≤ 66 := by
  have a := dec_len c.move; have b := dec_len c.games; have d := dec_len c.score
  unfold chT; simp only [List.length_append, List.length_cons, List.length_nil]; omega
theorem chsN_len (cs : List Cho) : ∀ k : Nat, (chsN cs k).length ≤ 66 * k
  | 0 => Nat.le_refl _
  | k + 1 => by
    have a := chsN_len cs k; have b := chT_len (cho cs k)
    rw [chsN, List.length_append]; omega
structure EntB (e : Ent) : Prop where
  p : e.pits.length ≤ 16
  g : Rng e.pits
  c : e.choices.length ≤ 8
  a : allOk e.pits = true
  ne : e.pits ≠ []
  v : ∀ x ∈ e.choices, 0 ≤ x.move ∧ x.move ≤ 7 ∧ 1 ≤ x.games ∧ x.games ≤ 1000000 ∧ 0 ≤ x.score ∧ x.score ≤ 2000000
theorem okE_b {r : Rul} {e : Ent} (h : okE r e = true) : EntB e := by
  unfold okE at h
  simp only [Bool.and_eq_true, decide_eq_true_eq] at h
  obtain ⟨⟨h1, h2⟩, h3⟩ := h
  obtain ⟨g1, g2, g3, g4, g5, g6, g7⟩ := okP_bd h1
  unfold okCs at h3
  rw [List.all_eq_true] at h3
  have hc : ∀ k : Nat, k < e.choices.length → (k = 0 ∨ (cho e.choices (k - 1)).move < (cho e.choices k).move) ∧ (0 ≤ (cho e.choices k).move ∧ (cho e.choices k).move ≤ 7 ∧ 1 ≤ (cho e.choices k).games ∧ (cho e.choices k).games ≤ 1000000 ∧ 0 ≤ (cho e.choices k).score ∧ (cho e.choices k).score ≤ 2000000) := fun k hk => by
    have h4 := h3 k (List.mem_range.2 hk)
    unfold chAt at h4
    simp only [Bool.and_eq_true, Bool.or_eq_true, decide_eq_true_eq, betw_iff] at h4
    obtain ⟨⟨⟨a, b⟩, c⟩, d⟩ := h4
    obtain ⟨_, m0, m1, _⟩ := make_ok b
    exact ⟨a, by omega⟩
  have hk : ∀ k : Nat, k < e.choices.length → (k : Int) ≤ (cho e.choices k).move := fun k => by
    induction k with
    | zero => intro h; have := (hc 0 h).2.1; omega
    | succ k ih =>
      intro h
      have h1 := ih (by omega)
      have h2 := (hc (k + 1) h).1
      rw [Nat.add_sub_cancel] at h2
      omega
  have hp : (e.pits.length : Int) = 2 * r.pits := g3
  refine ⟨by omega, Rng.ok g5, ?_, g5, fun e0 => by rw [e0] at hp; simp at hp; omega, fun x hx => ?_⟩
  · rcases Nat.lt_or_ge 8 e.choices.length with h | h
    · have a := hk (e.choices.length - 1) (by omega)
      have b := (hc (e.choices.length - 1) (by omega)).2.2.1
      omega
    · exact h
  · obtain ⟨k, hk, rfl⟩ := List.getElem_of_mem hx
    have h5 := (hc k hk).2
    have e5 : cho e.choices k = e.choices[k] := by simp [cho, List.getD, hk]
    rw [e5] at h5
    exact h5
theorem okB_all9 {b : Boo} (h : okB b = true) : okR b.rules = true ∧ b.entries.length ≤ 200 ∧ ∀ x ∈ b.entries, EntB x := by
  unfold okB at h
  simp only [Bool.and_eq_true, decide_eq_true_eq] at h
  obtain ⟨⟨h1, h2⟩, h3⟩ := h
  refine ⟨h1, h2, fun x hx => ?_⟩
  obtain ⟨k, hk, rfl⟩ := List.getElem_of_mem hx
  rw [List.all_eq_true] at h3
  have h4 := h3 k (List.mem_range.2 hk)
  unfold entAt at h4
  rw [Bool.and_eq_true] at h4
  have e5 : ent b.entries k = b.entries[k] := by simp [ent, List.getD, hk]
  rw [e5] at h4
  exact okE_b h4.2
theorem entT_len {e : Ent} (h : EntB e) : (entT e).length ≤ 881 := by
  have a := joinT_len e.pits; have b := chsN_len e.choices e.choices.length; have c := h.p; have d := h.c
  unfold entT; simp only [List.length_append, List.length_cons, List.length_nil]; omega
theorem booN_len {b : Boo} (h : okB b = true) : ∀ k : Nat, k ≤ b.entries.length → (booN b.rules b.entries k).length ≤ 156 + 881 * k
  | 0, _ => by have := rulesT_len b.rules; rw [booN]; simp only [List.length_append, List.length_cons, List.length_nil]; omega
  | k + 1, hk => by
    have a := booN_len h k (by omega)
    have c := entT_len ((okB_all9 h).2.2 _ (ent_mem (es := b.entries) (k := k) (by omega)))
    rw [booN, List.length_append]; omega
theorem chs_step {A out : List UInt8} {cs : List Cho} {k : Nat} {z : Cho} (h : out = A ++ chsN cs k) (hz : cs[k]? = some z) : out ++ ([32] ++ dec z.move ++ [47] ++ dec z.games ++ [47] ++ dec z.score) = A ++ chsN cs (k + 1) := by
  have e : cho cs k = z := by unfold cho; rw [List.getD_eq_getElem?_getD, hz]; rfl
  rw [chsN, e, h, List.append_assoc]; rfl
theorem chs_0 (A : List UInt8) (cs : List Cho) : A = A ++ chsN cs 0 := (List.append_nil A).symm
theorem boo_step {r : Rul} {es : List Ent} {k j : Nat} {y : Ent} {out : List UInt8} (hy : es[k]? = some y) (h : out = (booN r es k ++ joinT y.pits) ++ chsN y.choices j) (h1 : y.choices.length ≤ j) (h2 : j ≤ y.choices.length) : out ++ [10] = booN r es (k + 1) := by
  have e : ent es k = y := by unfold ent; rw [List.getD_eq_getElem?_getD, hy]; rfl
  rw [booN, e, h, Nat.le_antisymm h2 h1, entT]
  simp only [List.append_assoc]
theorem boo_in {b : Boo} {k j : Nat} {y : Ent} (h : okB b = true) (hy : b.entries[k]? = some y) (hj : j ≤ y.choices.length) : ((booN b.rules b.entries k ++ joinT y.pits) ++ chsN y.choices j).length ≤ 200000 := by
  have hk : k < b.entries.length := (List.getElem?_eq_some_iff.1 hy).1
  have a := booN_len h k (by omega)
  have e := (okB_all9 h).2.2 y (List.mem_of_getElem? hy)
  have c := joinT_len y.pits; have d := chsN_len y.choices j; have f := e.p; have g := e.c; have i := (okB_all9 h).2.1
  simp only [List.length_append]; omega
theorem boo_e {b : Boo} {k : Nat} {out : List UInt8} (h : out = booN b.rules b.entries k) (h1 : b.entries.length ≤ k) (h2 : k ≤ b.entries.length) : out = booT b := by rw [h, Nat.le_antisymm h2 h1]; rfl
section
variable {α : Type}
def cpS (z : α) (a : List α) (k : Nat) : List α := a.take k ++ List.replicate (a.length - k) z
theorem cpS_zero (z : α) (a : List α) : List.replicate a.length z = cpS z a 0 := by simp [cpS]
theorem cpS_step {z y : α} {a : List α} {k : Nat} (h : a[k]? = some y) : (cpS z a k).set k y = cpS z a (k + 1) := by
  obtain ⟨hk, rfl⟩ := List.getElem?_eq_some_iff.1 h
  have h1 : (a.take k).length = k := by rw [List.length_take]; omega
  unfold cpS
  have e : a.take (k + 1) = a.take k ++ [a[k]] := by rw [List.take_add_one, List.getElem?_eq_getElem hk]; rfl
  rw [List.set_append_right _ _ (by omega), h1, Nat.sub_self, e, show a.length - k = (a.length - (k + 1)) + 1 by omega, List.replicate_succ, List.set_cons_zero, List.append_assoc]
  rfl
theorem cpS_all {z : α} {a : List α} {k : Nat} (h : a.length ≤ k) : cpS z a k = a := by
  unfold cpS; rw [List.take_of_length_le h, show a.length - k = 0 by omega]; simp
end
theorem cho_ext {a b : Cho} (h1 : a.move = b.move) (h2 : a.games = b.games) (h3 : a.score = b.score) : a = b := by cases a; cases b; simp_all
theorem ent_ext {a b : Ent} (h1 : a.pits = b.pits) (h2 : a.choices = b.choices) : a = b := by cases a; cases b; simp_all
theorem boo_ext {a b : Boo} (h1 : a.rules = b.rules) (h2 : a.entries = b.entries) : a = b := by cases a; cases b; simp_all
def totE : List Ent → Nat
  | [] => 0
  | e :: es => e.pits.length + e.choices.length + totE es
theorem totE_app : ∀ (a b : List Ent), totE (a ++ b) = totE a + totE b
  | [], b => by simp [totE]
  | e :: a, b => by rw [List.cons_append, totE, totE_app a b, totE]; omega
theorem totE_step {es : List Ent} {i : Nat} (h : i < es.length) : totE (es.take (i + 1)) = totE (es.take i) + ((ent es i).pits.length + (ent es i).choices.length) := by
  rw [List.take_add_one, ent_get h, totE_app]; simp [totE]
theorem totE_le (es : List Ent) (i : Nat) : totE (es.take i) ≤ totE es := by
  conv => rhs; rw [← List.take_append_drop i es, totE_app]
  omega
theorem totE_mem {es : List Ent} {x : Ent} (h : x ∈ es) : x.pits.length + x.choices.length ≤ totE es := by
  induction es with
  | nil => simp at h
  | cons e es ih =>
    rcases List.mem_cons.1 h with rfl | h
    · rw [totE]; omega
    · have := ih h; rw [totE]; omega
theorem totE_small {es : List Ent} {n : Nat} (h : totE es ≤ n) : ∀ x ∈ es, x.pits.length ≤ n ∧ x.choices.length ≤ n := fun x hx => by have := totE_mem hx; omega
def hC (k : Int) (x : Cho) : Int := if x.move ≠ k then -1 else if x.games ≠ k + 1 then -1 else if x.score ≠ k + 2 then -1 else k + 3
def hE (k : Int) (e : Ent) : Int := if held e.pits k < 0 then -1 else if heldL hC (held e.pits k) e.choices < 0 then -1 else heldL hC (held e.pits k) e.choices
end Go.Proofs.YtjklnidbndopiaaGreatDoor.M

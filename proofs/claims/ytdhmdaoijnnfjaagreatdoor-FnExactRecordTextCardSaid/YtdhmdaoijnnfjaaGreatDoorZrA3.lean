/- What a call is handed, read as values of the model: whatever the data, there is a value of the model in the cells. -/
import Derived.Test.YtdhmdaoijnnfjaaGreatDoorZrA2
import Derived.ProofKit
import Derived.SizedLaws
import Derived.Test.YtdhmdaoijnnfjaaGreatDoorZrA1
import Derived.Laws.IdiomStrings
import Derived.Laws.IdiomCopy
set_option linter.unusedSimpArgs false
set_option linter.unusedVariables false
namespace Go.Proofs.YtdhmdaoijnnfjaaGreatDoor
open Go.RowKit Go.ChangeShapes Go.WideShapes Go.ChangeAt
theorem cell_of {w : World} {b o : Nat} {x : Value} (h : w.cell? ⟨b, o, none⟩ = some x) : Cell w b o x := by
  unfold World.cell? at h
  split at h
  · rename_i c t f hb
    exact ⟨c, t, f, hb, by simpa using h⟩
  all_goals simp at h
section
variable {H : Type} {enc : TypeId × Value → H} {w : World} {spare : Nat → Bool} {held : Bool} {fuel : Nat} {x : DataW H × List MemPlace} {cs : List Value}
theorem rd_cat {Ts Us : List Ty} (a s : Nat) (h1 : cellsOk w Ts ((cs.drop a).take s)) (h2 : cellsOk w Us (cs.drop (a + s))) : cellsOk w (Ts ++ Us) (cs.drop a) := by
  have := h1.append h2
  rwa [← List.drop_drop, List.take_append_drop] at this
theorem rd_end {n : Nat} (h : cs.length = n) : cellsOk w [] (cs.drop n) := by rw [List.drop_eq_nil_of_le (by omega)]; trivial
theorem rd_int {P : Program} {t : TypeId} (ht : P.underlying t = some (.int .i64)) (h : DataW.trod enc P w 0 spare held fuel t cs = some x) : ∃ n : Int, cellsOk w [Ty.int n] cs := by
  obtain ⟨n, rfl, _, _⟩ := DataW.trod_int ht h
  exact ⟨n, rfl, trivial⟩
theorem rd_bool {P : Program} {t : TypeId} (ht : P.underlying t = some .bool) (h : DataW.trod enc P w 0 spare held fuel t cs = some x) : ∃ b : Bool, cellsOk w [Ty.bool b] cs := by
  obtain ⟨b, rfl, _⟩ := DataW.trod_bool ht h
  exact ⟨b, rfl, trivial⟩
theorem rd_ints {P : Program} {t e : TypeId} (ht : P.underlying t = some (.slice e)) (he : P.underlying e = some (.int .i64)) (hc : P.cellsOf e = 1) (h : DataW.trod enc P w 0 spare held fuel t cs = some x) : ∃ xs : List Int, cellsOk w [Ty.ints e xs] cs := by
  rcases open_ints ht he hc h with ⟨rfl, _⟩ | ⟨a, len, cap, zs, rfl, _, hl, hm, hz, _, hcell, _⟩
  · exact ⟨[], nil_ok, trivial⟩
  · have hlz : len ≤ zs.length := by rw [hz]; split <;> omega
    have hlen : (zs.take len).length = len := by simp; omega
    refine ⟨zs.take len, ⟨by simp, some a, cap, ints_ (zs.take len), by rw [hlen], by rw [hlen]; exact hl, hm, (ints_own w _).ok, fun hp => ?_⟩, trivial⟩
    have hp : 0 < len := by rw [List.length_map, hlen] at hp; exact hp
    obtain ⟨b, off, spot⟩ := a
    have hspot : spot = none := by simpa [Addr.add] using World.cell?_spot (hcell 0 (by omega))
    subst hspot
    refine ⟨b, off, rfl, fun j v hj => ?_⟩
    simp only [ints_, List.getElem?_map, Option.map_eq_some_iff] at hj
    obtain ⟨n, hn, rfl⟩ := hj
    rw [List.getElem?_take] at hn
    split at hn
    · rename_i hjl
      have := hcell j (by omega)
      rw [addr_add] at this
      have e : zs.getD j 0 = n := by simp [List.getD, hn]
      rw [e] at this
      exact cell_of this
    · simp at hn
end
end Go.Proofs.YtdhmdaoijnnfjaaGreatDoor

namespace Go.Proofs.YtdhmdaoijnnfjaaGreatDoor
open Go.RowKit Go.ChangeShapes Go.WideShapes Go.ChangeAt
section
variable {H : Type} {enc : TypeId × Value → H} {w : World} {spare : Nat → Bool} {held : Bool} {fuel : Nat} {x : DataW H × List MemPlace} {cs : List Value}
end
end Go.Proofs.YtdhmdaoijnnfjaaGreatDoor

namespace Go.Proofs.YtdhmdaoijnnfjaaGreatDoor.M
def joinN (l : List Int) : Nat → List UInt8
  | 0 => []
  | k + 1 => (if 0 < k then joinN l k ++ [44] else joinN l k) ++ dec (nth l k)
def joinT (l : List Int) : List UInt8 := joinN l l.length
theorem joinN_len (l : List Int) : ∀ k : Nat, (joinN l k).length ≤ 22 * k
  | 0 => by simp [joinN]
  | k + 1 => by
    have h1 := joinN_len l k; have h2 := dec_len (nth l k)
    rw [joinN]; split <;> simp only [List.length_append, List.length_cons, List.length_nil] <;> omega
theorem joinN_p {l : List Int} {o : List UInt8} {k : Nat} (h : o = joinN l k) (hk : 0 < k) : (o ++ [44]) ++ dec (nth l k) = joinN l (k + 1) := by rw [joinN, if_pos hk, h]
theorem joinN_z {l : List Int} {o : List UInt8} {k : Nat} (h : o = joinN l k) (hk : ¬ 0 < k) : o ++ dec (nth l k) = joinN l (k + 1) := by rw [joinN, if_neg hk, h]
theorem joinN_big {l : List Int} {o : List UInt8} {k : Nat} (h : o = joinN l k) (hk : k ≤ 4194304) : o.length ≤ 92274688 := by rw [h]; have := joinN_len l k; omega
theorem joinN_e {l : List Int} {o : List UInt8} {k : Nat} (h : o = joinN l k) (hk : l.length ≤ k) (hk2 : k ≤ l.length) : o = joinT l := by rw [h, joinT, Nat.le_antisymm hk hk2]
theorem joinT_len (l : List Int) : (joinT l).length ≤ 22 * l.length := joinN_len l _
def Rng (l : List Int) : Prop := ∀ a ∈ l, -9223372036854775808 ≤ a ∧ a ≤ 9223372036854775807
theorem Rng.nth {l : List Int} (h : Rng l) (k : Nat) : -9223372036854775808 ≤ nth l k ∧ M.nth l k ≤ 9223372036854775807 := by
  by_cases hk : k < l.length
  · exact h _ (nth_mem hk)
  · simp [M.nth, List.getD, List.getElem?_eq_none (Nat.le_of_not_lt hk)]
theorem Rng.ok {l : List Int} (h : allOk l = true) : Rng l := fun a ha => by
  unfold allOk at h; rw [List.all_eq_true] at h
  have := betw_iff.1 (h _ ha); omega
theorem Rng.take {l : List Int} (h : Rng l) (k : Nat) : Rng (l.take k) := fun a ha => h a (List.mem_of_mem_take ha)
theorem Rng.drop {l : List Int} (h : Rng l) (k : Nat) : Rng (l.drop k) := fun a ha => h a (List.mem_of_mem_drop ha)
def posText (p : Pos) : List UInt8 := dec p.player ++ [32] ++ joinT (p.pits.take (p.pits.length / 2)) ++ [47] ++ joinT (p.pits.drop (p.pits.length / 2)) ++ [32] ++ joinT p.stores
theorem posText_len {p : Pos} (h1 : p.pits.length ≤ 16) (h2 : p.stores.length ≤ 2) : (posText p).length ≤ 1000 := by
  have a := dec_len p.player
  have b := joinT_len (p.pits.take (p.pits.length / 2)); have c := joinT_len (p.pits.drop (p.pits.length / 2)); have d := joinT_len p.stores
  rw [List.length_take] at b; rw [List.length_drop] at c
  unfold posText
  simp only [List.length_append, List.length_cons, List.length_nil]; omega
def posTextR (r : Rul) (p : Pos) : List UInt8 := if okP r p = true then posText p else []
theorem posTextR_yes {r : Rul} {p : Pos} (h : okP r p = true) : posTextR r p = posText p := by unfold posTextR; rw [if_pos h]
theorem posTextR_no {r : Rul} {p : Pos} (h : okP r p = false) : posTextR r p = [] := by unfold posTextR; rw [if_neg (by simp [h])]
theorem half {r : Rul} {p : Pos} (h : okP r p = true) : r.pits.toNat = p.pits.length / 2 := by have := okP_bd h; omega
end Go.Proofs.YtdhmdaoijnnfjaaGreatDoor.M

namespace Go.Proofs.YtdhmdaoijnnfjaaGreatDoor.M
def capNames : List (List UInt8) := [[110, 111, 110, 101], [116, 119, 111, 45, 116, 104, 114, 101, 101], [99, 114, 111, 115, 115], [101, 118, 101, 110]]
def slamNames : List (List UInt8) := [[116, 97, 107, 101], [102, 111, 114, 98, 105, 100], [110, 111, 116, 104, 105, 110, 103]]
def fNames : List (List UInt8) := [[115, 116, 111, 114, 101, 115], [115, 107, 105, 112], [114, 101, 108, 97, 121], [102, 101, 101, 100], [97, 103, 97, 105, 110]]
def fieldNames : List (List UInt8) := [[112, 105, 116, 115], [115, 101, 101, 100, 115], [115, 116, 111, 114, 101, 115], [115, 107, 105, 112], [114, 101, 108, 97, 121], [102, 101, 101, 100], [97, 103, 97, 105, 110], [99, 97, 112, 116, 117, 114, 101], [115, 108, 97, 109]]
def capName (k : Int) : List UInt8 := if k = 0 then [110, 111, 110, 101] else if k = 1 then [116, 119, 111, 45, 116, 104, 114, 101, 101] else if k = 2 then [99, 114, 111, 115, 115] else if k = 3 then [101, 118, 101, 110] else []
def slamName (k : Int) : List UInt8 := if k = 0 then [116, 97, 107, 101] else if k = 1 then [102, 111, 114, 98, 105, 100] else if k = 2 then [110, 111, 116, 104, 105, 110, 103] else []
theorem okR_all {r : Rul} (h : okR r = true) : 2 ≤ r.pits ∧ r.pits ≤ 8 ∧ 1 ≤ r.seeds ∧ r.seeds ≤ 6 ∧ 0 ≤ r.capture ∧ r.capture ≤ 3 ∧ 0 ≤ r.slam ∧ r.slam ≤ 2 := by
  simp only [okR, Bool.and_eq_true, betw_iff] at h; omega
theorem capName_len (k : Int) : (capName k).length ≤ 9 := by unfold capName; (repeat' split) <;> simp
theorem slamName_len (k : Int) : (slamName k).length ≤ 7 := by unfold slamName; (repeat' split) <;> simp
theorem capName_get {k : Int} {y : List UInt8} (h0 : 0 ≤ k) (h : capNames[k.toNat]? = some y) : y = capName k := by
  have hl : k.toNat < 4 := (List.getElem?_eq_some_iff.1 h).1
  have : k = 0 ∨ k = 1 ∨ k = 2 ∨ k = 3 := by omega
  rcases this with rfl | rfl | rfl | rfl <;> exact (Option.some.inj h).symm
theorem slamName_get {k : Int} {y : List UInt8} (h0 : 0 ≤ k) (h : slamNames[k.toNat]? = some y) : y = slamName k := by
  have hl : k.toNat < 3 := (List.getElem?_eq_some_iff.1 h).1
  have : k = 0 ∨ k = 1 ∨ k = 2 := by omega
  rcases this with rfl | rfl | rfl <;> exact (Option.some.inj h).symm
def flagIx (y : List UInt8) : Nat := if y = [115, 116, 111, 114, 101, 115] then 2 else if y = [115, 107, 105, 112] then 3 else if y = [114, 101, 108, 97, 121] then 4 else if y = [102, 101, 101, 100] then 5 else if y = [97, 103, 97, 105, 110] then 6 else 99
def flagB (r : Rul) (y : List UInt8) : Bool := if y = [115, 116, 111, 114, 101, 115] then r.stores else if y = [115, 107, 105, 112] then r.skip else if y = [114, 101, 108, 97, 121] then r.relay else if y = [102, 101, 101, 100] then r.feed else if y = [97, 103, 97, 105, 110] then r.again else false
theorem fNames_len {y : List UInt8} (h : y ∈ fNames) : y.length ≤ 6 := by
  have : ∀ x ∈ fNames, x.length ≤ 6 := by decide
  exact this y h
def rulesN (r : Rul) : Nat → List UInt8
  | 0 => [112, 105, 116, 115, 61] ++ dec r.pits ++ [32, 115, 101, 101, 100, 115, 61] ++ dec r.seeds ++ [32, 99, 97, 112, 116, 117, 114, 101, 61] ++ capName r.capture ++ [32, 115, 108, 97, 109, 61] ++ slamName r.slam
  | k + 1 => if flagB r (fNames.getD k []) = true then rulesN r k ++ ([32] ++ fNames.getD k []) else rulesN r k
def rulesT (r : Rul) : List UInt8 := rulesN r 5
def rulesTR (r : Rul) : List UInt8 := if okR r = true then rulesT r else []
theorem rulesTR_yes {r : Rul} (h : okR r = true) : rulesTR r = rulesT r := by unfold rulesTR; rw [if_pos h]
theorem rulesTR_no {r : Rul} (h : okR r = false) : rulesTR r = [] := by unfold rulesTR; rw [if_neg (by simp [h])]
theorem rulesN_len (r : Rul) : ∀ k : Nat, k ≤ 5 → (rulesN r k).length ≤ 120 + 7 * k
  | 0, _ => by
    have a := dec_len r.pits; have c := dec_len r.seeds; have d := capName_len r.capture; have e := slamName_len r.slam
    rw [rulesN]; simp only [List.length_append, List.length_cons, List.length_nil]; omega
  | k + 1, hk => by
    have h1 := rulesN_len r k (by omega)
    have h2 : (fNames.getD k []).length ≤ 6 := by
      have : k = 0 ∨ k = 1 ∨ k = 2 ∨ k = 3 ∨ k = 4 := by omega
      rcases this with rfl | rfl | rfl | rfl | rfl <;> decide
    rw [rulesN]; split <;> first | omega | (simp only [List.length_append, List.length_cons, List.length_nil]; omega)
theorem rulesN_t {r : Rul} {out y : List UInt8} {k : Nat} (h : out = rulesN r k) (hy : fNames[k]? = some y) (hb : flagB r y = true) : out ++ ([32] ++ y) = rulesN r (k + 1) := by
  have e : fNames.getD k [] = y := by rw [List.getD_eq_getElem?_getD, hy]; rfl
  rw [rulesN, e, if_pos hb, h]
theorem rulesN_f {r : Rul} {out y : List UInt8} {k : Nat} (h : out = rulesN r k) (hy : fNames[k]? = some y) (hb : flagB r y = false) : out = rulesN r (k + 1) := by
  have e : fNames.getD k [] = y := by rw [List.getD_eq_getElem?_getD, hy]; rfl
  rw [rulesN, e, if_neg (by simp [hb]), h]
theorem rulesN_e {r : Rul} {out : List UInt8} {k : Nat} (h : out = rulesN r k) (h1 : 5 ≤ k) (h2 : k ≤ 5) : out = rulesT r := by rw [h, rulesT, Nat.le_antisymm h2 h1]
theorem rulesT_len (r : Rul) : (rulesT r).length ≤ 155 := rulesN_len r 5 (Nat.le_refl _)
def bit (x : Bool) : Int := if x = true then 1 else 0
def fieldsL (r : Rul) : List Int := [r.pits, r.seeds, bit r.stores, bit r.skip, bit r.relay, bit r.feed, bit r.again, r.capture, r.slam]
theorem fields_at {r : Rul} {k : Nat} {y : List UInt8} (h1 : 2 ≤ k) (h2 : k ≤ 6) (hy : fieldNames[k]? = some y) : fNames[k - 2]? = some y ∧ nth (fieldsL r) k = bit (flagB r y) := by
  have : k = 2 ∨ k = 3 ∨ k = 4 ∨ k = 5 ∨ k = 6 := by omega
  rcases this with rfl | rfl | rfl | rfl | rfl <;> (obtain rfl := Option.some.inj hy; exact ⟨rfl, rfl⟩)
theorem bit_1 {x : Bool} (h : bit x = 1) : x = true := by cases x <;> simp_all [bit]
theorem bit_0 {x : Bool} (h : ¬ bit x = 1) : x = false := by cases x <;> simp_all [bit]
theorem rulesN_s {r : Rul} {out y : List UInt8} {k : Nat} (h : out = rulesN r (k - 2)) (h1 : 2 ≤ k) (h2 : k ≤ 6) (hy : fieldNames[k]? = some y) (hb : nth (fieldsL r) k = 1) : out ++ ([32] ++ y) = rulesN r (k + 1 - 2) := by
  obtain ⟨a, c⟩ := fields_at (r := r) h1 h2 hy
  have := rulesN_t h a (bit_1 (c ▸ hb))
  rwa [show k - 2 + 1 = k + 1 - 2 by omega] at this
theorem rulesN_n {r : Rul} {out : List UInt8} {k : Nat} (h : out = rulesN r (k - 2)) (h1 : 2 ≤ k) (h2 : k ≤ 6) (hb : ¬ nth (fieldsL r) k = 1) : out = rulesN r (k + 1 - 2) := by
  obtain ⟨y, hy⟩ : ∃ y, fieldNames[k]? = some y := ⟨_, List.getElem?_eq_getElem (by show k < 9; omega)⟩
  obtain ⟨a, c⟩ := fields_at (r := r) h1 h2 hy
  have := rulesN_f h a (bit_0 (c ▸ hb))
  rwa [show k - 2 + 1 = k + 1 - 2 by omega] at this
def recLine (n m g : Int) : List UInt8 := dec n ++ [46, 32] ++ dec m ++ [43] ++ dec g
theorem recLine_len (n m g : Int) : (recLine n m g).length ≤ 66 := by
  have a := dec_len n; have c := dec_len m; have d := dec_len g
  unfold recLine; simp only [List.length_append, List.length_cons, List.length_nil]; omega
def recN (b : List UInt8) (ms gs : List Int) : Nat → List UInt8
  | 0 => b
  | k + 1 => (recN b ms gs k ++ recLine ((k : Int) + 1) (nth ms k) (nth gs k)) ++ [10]
theorem recN_len (b : List UInt8) (ms gs : List Int) : ∀ k : Nat, (recN b ms gs k).length ≤ b.length + 67 * k
  | 0 => by simp [recN]
  | k + 1 => by
    have h1 := recN_len b ms gs k; have h2 := recLine_len ((k : Int) + 1) (nth ms k) (nth gs k)
    rw [recN]; simp only [List.length_append, List.length_cons, List.length_nil]; omega
def recBase (g : Gam) : List UInt8 := [114, 117, 108, 101, 115, 32] ++ rulesT g.rules ++ [10, 115, 116, 97, 114, 116, 32] ++ posText g.start ++ [10]
theorem recBase_len {g : Gam} (h : okG g = true) : (recBase g).length ≤ 1200 := by
  have h1 := (okG_parts h).1
  have h2 := okP_bd h1
  have a := rulesT_len g.rules; have c := posText_len (p := g.start) (by omega) (by omega)
  unfold recBase; simp only [List.length_append, List.length_cons, List.length_nil]; omega
def recGs (g : Gam) : List Int := gains (runs g.rules g.start g.moves)
def recB (g : Gam) (k : Nat) : List UInt8 := recN (recBase g) g.moves (recGs g) k
theorem recB_len {g : Gam} (h : okG g = true) {k : Nat} (hk : k ≤ 120) : (recB g k).length ≤ 10000 := by
  have := recN_len (recBase g) g.moves (recGs g) k; have := recBase_len h; unfold recB; omega
def recT (g : Gam) : List UInt8 := if 0 ≤ g.resigned then recB g g.moves.length ++ ([114, 101, 115, 105, 103, 110, 115, 32] ++ dec g.resigned ++ [10]) else recB g g.moves.length
def recTR (g : Gam) : List UInt8 := if okG g = true then recT g else []
theorem recTR_yes {g : Gam} (h : okG g = true) : recTR g = recT g := by unfold recTR; rw [if_pos h]
theorem recTR_no {g : Gam} (h : okG g = false) : recTR g = [] := by unfold recTR; rw [if_neg (by simp [h])]
theorem runs_get (r : Rul) : ∀ (ms : List Int) (p : Pos) (k : Nat) (y : Res), (runs r p ms)[k]? = some y → y.move = nth ms k ∧ 0 ≤ y.move ∧ y.move ≤ 8 ∧ -96 ≤ y.gain ∧ y.gain ≤ 96
  | [], p, k, y, h => by simp [runs] at h
  | m :: ms, p, k, y, h => by
    rw [runs] at h
    by_cases hz : (make r p m).2 = 0
    · rw [if_pos hz] at h
      cases k with
      | zero =>
        have e : (make r p m).1 = y := Option.some.inj h
        have h1 := make_ok hz; have h2 := make_gain hz; have h3 := okP_bd h1.1
        rw [← e]; exact ⟨h1.2.2.2.2.1, by rw [h1.2.2.2.2.1]; omega, by rw [h1.2.2.2.2.1]; omega, h2.1, h2.2⟩
      | succ k => exact runs_get r ms _ k y h
    · rw [if_neg hz] at h; simp at h
theorem gains_nth {l : List Res} {k : Nat} {y : Res} (h : l[k]? = some y) : nth (gains l) k = y.gain := by
  unfold nth gains; rw [List.getD_eq_getElem?_getD, List.getElem?_map, h]; rfl
theorem recB_step {g : Gam} {out : List UInt8} {k : Nat} {y : Res} (h : out = recB g k) (hy : (runs g.rules g.start g.moves)[k]? = some y) :
    out ++ (dec ((k : Int) + 1) ++ [46, 32] ++ dec y.move ++ [43] ++ dec y.gain ++ [10]) = recB g (k + 1) := by
  have h1 := runs_get g.rules g.moves g.start k y hy
  have h2 := gains_nth hy
  show _ = (recN (recBase g) g.moves (recGs g) k ++ recLine ((k : Int) + 1) (nth g.moves k) (nth (recGs g) k)) ++ [10]
  rw [h, recB, recLine, show nth (recGs g) k = y.gain from h2, ← h1.1]
  simp only [List.append_assoc]
theorem recB_s {g : Gam} {out : List UInt8} {k : Nat} (h : out = recB g k) : (out ++ recLine ((k : Int) + 1) (nth g.moves k) (nth (recGs g) k)) ++ [10] = recB g (k + 1) := by rw [h]; rfl
theorem recB_e {g : Gam} {out : List UInt8} {k : Nat} (h : out = recB g k) (h1 : g.moves.length ≤ k) (h2 : k ≤ g.moves.length) : out = recB g g.moves.length := by rw [h, Nat.le_antisymm h2 h1]
theorem recT_r {g : Gam} {out : List UInt8} (h : out = recB g g.moves.length) (h1 : 0 ≤ g.resigned) : recT g = out ++ ([114, 101, 115, 105, 103, 110, 115, 32] ++ dec g.resigned ++ [10]) := by unfold recT; rw [if_pos h1, h]
theorem recT_n {g : Gam} {out : List UInt8} (h : out = recB g g.moves.length) (h1 : ¬ 0 ≤ g.resigned) : recT g = out := by unfold recT; rw [if_neg h1, h]
theorem recGs_bd (g : Gam) (k : Nat) : -96 ≤ nth (recGs g) k ∧ nth (recGs g) k ≤ 96 := by
  by_cases hk : k < (recGs g).length
  · exact gains_bd _ _ _ _ (nth_mem hk)
  · simp [nth, List.getD, List.getElem?_eq_none (Nat.le_of_not_lt hk)]
theorem recMs_bd {g : Gam} (h : okG g = true) (k : Nat) : 0 ≤ nth g.moves k ∧ nth g.moves k ≤ 8 := by
  by_cases hk : k < g.moves.length
  · obtain ⟨_, _, _, _, _, _, _, h8, _⟩ := okG_parts h
    have hy : (runs g.rules g.start g.moves)[k]? = some (runs g.rules g.start g.moves)[k] := List.getElem?_eq_getElem (by omega)
    have := runs_get _ _ _ _ _ hy
    rw [← this.1]; exact ⟨this.2.1, this.2.2.1⟩
  · simp [nth, List.getD, List.getElem?_eq_none (Nat.le_of_not_lt hk)]
theorem recGs_len {g : Gam} (h : okG g = true) : (recGs g).length = g.moves.length := by
  obtain ⟨_, _, _, _, _, _, _, h8, _⟩ := okG_parts h
  rw [recGs, gains_length, h8]
end Go.Proofs.YtdhmdaoijnnfjaaGreatDoor.M

namespace Go.Proofs.YtdhmdaoijnnfjaaGreatDoor
open Go.RowKit
def addO : Value → Nat → Value
  | .pointer (some ⟨b, o, none⟩), k => .pointer (some ⟨b, o + k, none⟩)
  | v, _ => v
theorem flag_get {r : M.Rul} {y : List UInt8} (h : y ∈ M.fNames) :
    [Value.int .i64 r.pits, .int .i64 r.seeds, .bool r.stores, .bool r.skip, .bool r.relay, .bool r.feed, .bool r.again, .int .i64 r.capture, .int .i64 r.slam][0 + M.flagIx y]? = some (.bool (M.flagB r y)) := by
  simp only [M.fNames, List.mem_cons, List.not_mem_nil, or_false] at h
  rcases h with rfl | rfl | rfl | rfl | rfl <;> rfl
instance {n : Int} : LenB (M.capName n) 9 := ⟨M.capName_len n⟩
instance {n : Int} : LenB (M.slamName n) 7 := ⟨M.slamName_len n⟩
instance {r : M.Rul} : LenB (M.rulesT r) 155 := ⟨M.rulesT_len r⟩
instance {a b c : Int} : LenB (M.recLine a b c) 66 := ⟨M.recLine_len a b c⟩
theorem setCells_all {g : Nat} {e : TypeId} {fz : Nat × Nat} : ∀ (vs : List Value) (o : Nat) (w : World) (cur : Array Value), w.heap[g]? = some (.cells cur e fz) →
    (∃ cur', (w.setCells g o vs).heap[g]? = some (.cells cur' e fz) ∧ cur'.size = cur.size) ∧ w.grownBy (w.setCells g o vs) (some g)
  | [], o, w, cur, h => ⟨⟨cur, h, rfl⟩, ⟨rfl, rfl, rfl, Nat.le_refl _, fun _ _ _ => rfl⟩⟩
  | v :: vs, o, w, cur, h => by
    have h1 : (w.setCell ⟨g, o, none⟩ v).heap[g]? = some (.cells (cur.setIfInBounds o v) e fz) := by
      simp [World.setCell, Array.getElem?_modify, h]
    obtain ⟨⟨cur', h2, h3⟩, h4⟩ := setCells_all vs (o + 1) (w.setCell ⟨g, o, none⟩ v) _ h1
    refine ⟨⟨cur', h2, by rw [h3]; simp⟩, ⟨h4.os, h4.tape, h4.output, ?_, fun k hk hn => ?_⟩⟩
    · refine Nat.le_trans ?_ h4.size; simp [World.setCell]
    · rw [World.setCells, h4.block k (by simpa [World.setCell] using hk) hn]
      have : g ≠ k := fun e => hn (by rw [e])
      simp [World.setCell, Array.getElem?_modify, this]
def ownsRowS (w : World) (e : TypeId) (v : Value) (n : Nat) (xs : List Value) : Prop :=
  xs.length = n ∧ ∃ g cap cur fz, v = .slice (some ⟨g, 0, none⟩) n cap ∧ w.heap[g]? = some (.cells cur e fz) ∧ (fz.2 = 0 ∨ cap ≤ fz.1) ∧ n ≤ cap ∧ cap ≤ maxLen ∧ cur.size = cap ∧ cur.toList.take n = xs
def rowS (e : TypeId) (v : Value) (n : Nat) (vs : List Value) (g : List Nat) : Own := ⟨v.ownBlock.toList ++ g, fun w => ownsRowS w e v n vs, fun {w w'} h k => by
  refine ⟨k.1, ?_⟩
  obtain ⟨_, g, cap, cur, fz, rfl, hg, r⟩ := k
  exact ⟨g, cap, cur, fz, rfl, by rw [h g (by simp [Value.ownBlock])]; exact hg, r⟩⟩
theorem ownsRowS.cell {w : World} {e : TypeId} {g n cap : Nat} {xs : List Value} (h : ownsRowS w e (.slice (some ⟨g, 0, none⟩) n cap) n xs) (j : Nat) (u : Value) (hu : xs[j]? = some u) : w.cell? ⟨g, j, none⟩ = some u := by
  obtain ⟨_, g', cap', cur, fz, hv, hg, _, _, _, _, ht⟩ := h
  injection hv with hv _ _
  injection hv with hv
  injection hv with hv _ _
  subst hv
  rw [← ht, List.getElem?_take] at hu
  split at hu
  · simp [World.cell?, hg]; simpa using hu
  · cases hu
section
variable {P : Program}
theorem run_append_S (w : World) (t tx ty e : TypeId) (i : TypeInfo) (z : Value) (ht : P.underlying t = some (.slice e)) (hi : P.info? e = some i) (hz : i.zero = some z) (hsize : i.size = 1) (hzs : z.cells.size = 1)
    (v : Value) (n : Nat) (xs : List Value) (hown : ownsRowS w e v n xs) (x : Value) (m : Nat) (news : List Value) (hs : Src P 1 tx x m news w) (h63 : n + m ≤ maxLen) (hbytes : (n + m) * i.bytes ≤ 140737488355328) :
    ∃ v' w', (Builtin.append_ #[t, tx] ty #[v, x]).run P w = .ok v' w' ∧ ownsRowS w' e v' (n + m) (xs ++ news) ∧ w.grownBy w' v.ownBlock ∧ (v'.ownBlock = v.ownBlock ∨ v'.ownBlock = some w.heap.size) := by
  have hsmall : n + m ≤ 9223372036854775807 := by simp only [maxLen] at h63; omega
  have hs' : Src P i.size tx x m news w := by rw [hsize]; exact hs
  have hnl : news.length = m := by have := hs.newsLen; omega
  have hown0 := hown
  obtain ⟨hxl, g, cap, cur, fz, rfl, hg, hfz, hnc, hcm, hcs, htake⟩ := hown
  have hlen : (xs ++ news).length = n + m := by rw [List.length_append, hxl, hnl]
  by_cases hroom : n + m ≤ cap
  · have hr := run_append_room_src (P := P) w t tx ty e i ht hi g 0 n cap x m news hs' hroom
      (fun j hj => by
        rw [hsize]; simp [World.cell?, hg]; omega)
      (fun j hj => by
        obtain ⟨lo, hi'⟩ := fz
        rw [hsize]
        simp only [World.frozen?, hg, Bool.and_eq_false_iff, decide_eq_false_iff_not]
        simp only at hfz
        rcases hfz with h | h
        · right; omega
        · left; omega)
    obtain ⟨⟨cur', h1, h2⟩, h3⟩ := setCells_all news (0 + n * i.size) w cur hg
    refine ⟨_, _, hr, ⟨hlen, g, cap, cur', fz, rfl, h1, hfz, hroom, hcm, by omega, ?_⟩, h3, .inl rfl⟩
    refine List.ext_getElem? fun j => ?_
    have hcell : ∀ j, cur'.toList[j]? = (w.setCells g (0 + n * i.size) news).cell? ⟨g, j, none⟩ := fun j => by unfold World.cell?; rw [h1]; simp
    rw [List.getElem?_take]
    split
    · rename_i hj
      rw [hcell]
      by_cases hjn : j < n
      · rw [World.cell?_setCells_out g news _ w _ (fun _ _ => .inl (by rw [hsize]; show j < _; omega)), List.getElem?_append_left (by omega)]
        have hx : xs[j]? = some xs[j] := List.getElem?_eq_getElem (by omega)
        rw [hx]; exact hown0.cell j _ hx
      · have := World.cell?_setCells_in g news (0 + n * i.size) w (fun k hk => by
          rw [hsize]; simp [World.cell?, hg]; omega) (j - n) (by omega)
        rw [show 0 + n * i.size + (j - n) = j by rw [hsize]; omega] at this
        rw [this, List.getElem?_append_right (by omega), hxl, List.getElem?_eq_getElem (by omega)]
    · rename_i hj
      rw [List.getElem?_eq_none (by omega)]
  · have hr := run_append_grow_src (P := P) w t tx ty e i z ht hi hz (some ⟨g, 0, none⟩) n cap xs (run_firstCells_some w.drew i.size n _ n cap xs (by rw [hsize]; omega) (fun j u hu => by
        have : (⟨g, 0, none⟩ : Addr).add j = ⟨g, j, none⟩ := by rw [addr_add, Nat.zero_add]
        rw [this]; exact hown0.cell j u hu)) x m news hs' (by omega) (by omega) (growslice_fits (by omega) hbytes)
    have hge := grownCap_ge w (n + m) cap e
    have hcm' : grownCap w (n + m) cap e ≤ maxLen := grownCap_le_maxLen w (n + m) cap e h63
    refine ⟨_, _, hr, ⟨hlen, w.heap.size, _, _, (0, 0), rfl, heap_alloc_new w.drew _, .inl rfl, hge, hcm', ?_, ?_⟩, ⟨rfl, rfl, rfl, by simp, fun k hk _ => Below.heap_alloc w.drew _ k hk⟩, .inr rfl⟩
    · simp only [Array.size_append, List.size_toArray, size_zeroCells, hzs, hlen]; omega
    · simp only [Array.toList_append]
      rw [← hlen]
      exact List.take_left
variable {n lo : Nat} {B : List Nat} {l : Fr} {os : List Own} {u : World} {dst : Option Tmp} {ty : TypeId} {pos : String} {af : Array Edge} {gd : Option (Nat × Bool)}
theorem rowS_form {i m : Nat} {e : TypeId} {v : Value} {vs : List Value} {g : List Nat} (hi : os[i]? = some (rowS e v m vs g)) : ∀ w, St lo B u w os → ∃ A c, v = .slice A m c ∧ m ≤ c ∧ c ≤ 9223372036854775807 := fun w hw => by
  obtain ⟨_, b, c, cur, fz, rfl, _, _, h1, h2, _⟩ := hw.prs _ (List.mem_of_getElem? hi)
  exact ⟨_, _, rfl, h1, by unfold maxLen at h2; omega⟩
theorem e_appendS {x y : Operand} {t tx e : TypeId} {i m k n' by' : Nat} {z xs news vs' : List Value} {v yv : Value} {g : List Nat} (ht : elOf P t = some (e, 1, by', z)) (hzl : Nat.beq z.length 1 = true) (hx : opd l x = some v) (hi : os[i]? = some (rowS e v m xs g)) (hy : opd l y = some yv)
    (hs : ∀ w, St lo B u w os → Src P 1 tx yv k news w) (h63 : m + k ≤ 9223372036854775807) (hb : (m + k) * by' ≤ 140737488355328) (hn' : m + k = n') (hvs : xs ++ news = vs') :
    OpE P n lo B l os u ⟨dst, .call { callee := .builtin .append, args := #[x, y], argTypes := #[t, tx] }, ty, pos, af, gd⟩ false
      (fun v' os' u' => (∃ g', os' = os.set i (rowS e v' n' vs' g')) ∧ u = u') := fun a w ha hw K Q hk => by
  subst hn'; subst hvs
  unfold elOf at ht
  split at ht
  · rename_i e' hu
    split at ht
    · rename_i i' hi'
      split at ht
      · rename_i zv hzz
        simp only [Option.some.injEq, Prod.mk.injEq] at ht
        obtain ⟨rfl, hs1, rfl, rfl⟩ := ht
        have hzl : zv.cells.size = 1 := by simpa [Nat.beq_eq] using hzl
        have hown : ownsRowS w e' v m xs := hw.prs _ (List.mem_of_getElem? hi)
        obtain ⟨v', w', hr, ho', hgr, hat⟩ := run_append_S (P := P) w t tx ty e' i' zv hu hi' hzz hs1 hzl v m xs hown yv k news (hs w hw) (by unfold maxLen; omega) hb
        have hdis : (v.ownBlock.toList ++ g).Nodup := by
          exact nodup_mem hw.dis (List.mem_of_getElem? hi)
        have hlt : ∀ k, v'.ownBlock = some k → k < w'.heap.size := fun k hk => by
          obtain ⟨_, b, _, _, _, rfl, hg, _⟩ := ho'
          simp [Value.ownBlock] at hk; subst hk
          exact (Array.getElem?_eq_some_iff.1 hg).1
        unfold Oper.wp execOp
        simp only [resolve, invoke, builtin, Sem.run_bind, Sem.run_pure, Result.andThen_ok, List.map_toArray, List.map_cons, List.map_nil, ha.eval hx, ha.eval hy, hr]
        rcases Classical.em (v'.ownBlock = v.ownBlock) with he | he
        · refine hk v' _ u w' ⟨⟨g, rfl⟩, rfl⟩ (Up.refl lo u) (hw.upd hi hgr.os hgr.tape hgr.output hgr.size (fun k hk hn => hgr.block k hk fun e => hn (by simp [rowS, ← e])) (fun k hk => .inl (by simpa [rowS, he] using hk)) (by simpa [rowS, he] using hdis) ho' (fun k hk _ => by simpa [rowS, he] using hk)) (fun h => by cases h)
        · have hnew : v'.ownBlock = some w.heap.size := hat.resolve_left he
          refine hk v' _ u w' ⟨⟨v.ownBlock.toList ++ g, rfl⟩, rfl⟩ (Up.refl lo u) (hw.upd hi hgr.os hgr.tape hgr.output hgr.size (fun k hk hn => hgr.block k hk fun e => hn (by simp [rowS, ← e])) (fun k hk => ?_) ?_ ho' (fun k hk _ => by simp only [rowS] at hk ⊢; exact List.mem_append_right _ hk)) (fun h => by cases h)
          · simp only [rowS, hnew, Option.toList_some, List.mem_append, List.mem_singleton] at hk ⊢
            rcases hk with rfl | hk
            · exact .inr ⟨Nat.le_refl _, hlt _ hnew⟩
            · exact .inl hk
          · simp only [rowS, hnew, Option.toList_some]
            rw [List.nodup_append]
            refine ⟨by simp, hdis, fun a' ha' b' hb' e => ?_⟩
            simp only [List.mem_singleton] at ha'
            subst ha'; subst e
            have := (hw.hid _ (List.mem_of_getElem? hi) _ (by simpa [rowS] using hb')).1
            omega
      · simp at ht
    · simp at ht
  · simp at ht
theorem e_toBytes {x : Operand} {src dt e : TypeId} {a0 : List UInt8} {k : Nat} [hl : LenB a0 k] (hs : P.underlying src = some .string) (hd : P.underlying dt = some (.slice e)) (he : P.underlying e = some (.int .u8)) (hx : opd l x = some (.string (sB a0))) (hk9 : Nat.ble k 9223372036854775807 = true := by rfl) :
    OpE P n lo B l os u ⟨dst, .convert src dt x, ty, pos, af, gd⟩ true (fun v' os' u' => os' = rowS e v' a0.length (byt_ a0) [] :: os ∧ u = u') := fun a w ha hw K Q hk => by
  have hkk : k ≤ 9223372036854775807 := by simpa [Nat.ble_eq] using hk9
  have hsz : (sB a0).size = a0.length := by simp [sB, ByteArray.size]
  have hr := run_bytes_of_string (P := P) w src dt e (sB a0) hs hd he
  have hge := grownCap_ge w (sB a0).size 0 e
  have hcm : grownCap w (sB a0).size 0 e ≤ maxLen := grownCap_le_maxLen w _ 0 e (by rw [hsz]; have := hl.h; unfold maxLen; omega)
  have hbs : (bytesRow (sB a0) (grownCap w (sB a0).size 0 e)).size = grownCap w (sB a0).size 0 e := by
    simp only [bytesRow, Array.size_append, Array.size_map, Array.size_replicate]
    have h9 : (sB a0).data.size = a0.length := hsz
    rw [h9]; omega
  unfold Oper.wp execOp
  simp only [ha.eval hx, Sem.run_bind, hr, Result.andThen_ok, Sem.run_pure]
  have hx9 : Ext w (w.drew.alloc (.cells (bytesRow (sB a0) (grownCap w (sB a0).size 0 e)) e ((bytesRow (sB a0) (grownCap w (sB a0).size 0 e)).size, (bytesRow (sB a0) (grownCap w (sB a0).size 0 e)).size + 1))) := by
    refine ⟨rfl, rfl, rfl, ?_, fun a ha => ?_⟩
    · show w.heap.size ≤ (w.heap.push _).size; simp
    · exact Below.heap_alloc w.drew _ a ha
  refine hk _ _ u _ ⟨rfl, rfl⟩ (Up.refl lo u) (St.new (o := rowS e (.slice (some ⟨w.heap.size, 0, none⟩) (sB a0).size (grownCap w (sB a0).size 0 e)) a0.length (byt_ a0) []) hw hx9 (fun k hk => ?_) ?_ ?_) (fun _ => hx9)
  · simp only [rowS, Value.ownBlock, Option.toList_some, List.append_nil, List.mem_singleton] at hk
    subst hk; refine ⟨Nat.le_refl _, ?_⟩; show w.heap.size < (w.heap.push _).size; simp
  · simp [rowS, Value.ownBlock]
  · refine ⟨byt_len _, w.heap.size, _, _, _, by rw [← hsz], heap_alloc_new w.drew _, .inr (by rw [hbs]; exact Nat.le_refl _), by omega, hcm, hbs, ?_⟩
    simp only [bytesRow, Array.toList_append, Array.toList_map]
    show List.take a0.length (byt_ a0 ++ _) = byt_ a0
    exact List.take_left' (byt_len a0)
theorem q_toStrS {x : Operand} {src dt e e' : TypeId} {i m c : Nat} {A : Option Addr} {xs : List UInt8} {g : List Nat} (hs : P.underlying src = some (.slice e)) (he : P.underlying e = some (.int .u8)) (hd : P.underlying dt = some .string)
    (hx : opd l x = some (.slice A m c)) (hi : os[i]? = some (rowS e' (.slice A m c) m (byt_ xs) g)) : OpQ P n lo B l os u ⟨dst, .convert src dt x, ty, pos, af, gd⟩ (.string (sB xs)) := fun a w ha hw => by
  have hp : ownsRowS w e' (.slice A m c) m (byt_ xs) := hw.prs _ (List.mem_of_getElem? hi)
  have hl : m = xs.length := by have := hp.1; rw [byt_len] at this; omega
  subst hl
  have key : (convert src dt (.slice A xs.length c)).run P w = .ok (.string (sB xs)) w := by
    obtain ⟨_, b, c', cur, fz, h2, _⟩ := id hp
    injection h2 with h2 _ h3
    subst h2
    exact run_convert_bytes_back w src dt e ⟨b, 0, none⟩ c xs hs he hd (fun j hj => by
      rw [addr_add, Nat.zero_add]
      exact hp.cell j _ (by simp [byt_, List.getElem?_eq_getElem hj]))
  simp only [execOp, ha.eval hx, Sem.run_bind, key, Result.andThen_ok, Sem.run_pure]
end
end Go.Proofs.YtdhmdaoijnnfjaaGreatDoor


/- Plain mathematics of texts: positions, puzzles, hints. -/
import Derived.Test.YtdhmdaoijnnfjaaDoorZsA2
import Derived.Laws.IdiomStrings
import Derived.Laws.IdiomCopy
set_option linter.unusedSimpArgs false
set_option linter.unusedVariables false
namespace Go.Proofs.YtdhmdaoijnnfjaaDoor.M
def Rng (l : List Int) : Prop := ∀ a ∈ l, -9223372036854775808 ≤ a ∧ a ≤ 9223372036854775807
theorem Rng.nth {l : List Int} (h : Rng l) (k : Nat) : -9223372036854775808 ≤ nth l k ∧ M.nth l k ≤ 9223372036854775807 := by
  by_cases hk : k < l.length
  · exact h _ (nth_mem hk)
  · simp [M.nth, List.getD, List.getElem?_eq_none (Nat.le_of_not_lt hk)]
theorem Rng.ok {l : List Int} (h : allOk l = true) : Rng l := fun a ha => by
  unfold allOk at h; rw [List.all_eq_true] at h
  have := betw_iff.1 (h _ ha); omega
theorem Rng.take {l : List Int} (h : Rng l) (k : Nat) : Rng (l.take k) := fun a ha => h a (List.mem_of_mem_take ha)
theorem Rng.drop {l : List Int} (h : Rng l) (k : Nat) : Rng (l.drop k) := fun a ha => h a (List.mem_of_mem_drop ha)
end Go.Proofs.YtdhmdaoijnnfjaaDoor.M

namespace Go.Proofs.YtdhmdaoijnnfjaaDoor.M
def fNames : List (List UInt8) := [[115, 116, 111, 114, 101, 115], [115, 107, 105, 112], [114, 101, 108, 97, 121], [102, 101, 101, 100], [97, 103, 97, 105, 110]]
def capName (k : Int) : List UInt8 := if k = 0 then [110, 111, 110, 101] else if k = 1 then [116, 119, 111, 45, 116, 104, 114, 101, 101] else if k = 2 then [99, 114, 111, 115, 115] else if k = 3 then [101, 118, 101, 110] else []
def slamName (k : Int) : List UInt8 := if k = 0 then [116, 97, 107, 101] else if k = 1 then [102, 111, 114, 98, 105, 100] else if k = 2 then [110, 111, 116, 104, 105, 110, 103] else []
theorem capName_len (k : Int) : (capName k).length ≤ 9 := by unfold capName; (repeat' split) <;> simp
theorem slamName_len (k : Int) : (slamName k).length ≤ 7 := by unfold slamName; (repeat' split) <;> simp
def flagB (r : Rul) (y : List UInt8) : Bool := if y = [115, 116, 111, 114, 101, 115] then r.stores else if y = [115, 107, 105, 112] then r.skip else if y = [114, 101, 108, 97, 121] then r.relay else if y = [102, 101, 101, 100] then r.feed else if y = [97, 103, 97, 105, 110] then r.again else false
def rulesN (r : Rul) : Nat → List UInt8
  | 0 => [112, 105, 116, 115, 61] ++ dec r.pits ++ [32, 115, 101, 101, 100, 115, 61] ++ dec r.seeds ++ [32, 99, 97, 112, 116, 117, 114, 101, 61] ++ capName r.capture ++ [32, 115, 108, 97, 109, 61] ++ slamName r.slam
  | k + 1 => if flagB r (fNames.getD k []) = true then rulesN r k ++ ([32] ++ fNames.getD k []) else rulesN r k
def rulesT (r : Rul) : List UInt8 := rulesN r 5
theorem rulesN_len (r : Rul) : ∀ k : Nat, k ≤ 5 → (rulesN r k).length ≤ 120 + 7 * k
  | 0, _ => by
    have a := dec_len r.pits; have c := dec_len r.seeds; have d := capName_len r.capture; have e := slamName_len r.slam
    rw [rulesN]; simp only [List.length_append, List.length_cons, List.length_nil]; omega
  | k + 1, hk => by
    have h1 := rulesN_len r k (by omega)
    have h2 : (fNames.getD k []).length ≤ 6 := by
      have : k = 0 ∨ k = 1 ∨ k = 2 ∨ k = 3 ∨ k = 4 := by omega
      rcases this with rfl | rfl | rfl | rfl | rfl <;> decide
    rw [rulesN]; split <;> first | omega | (simp only [List.length_append, List.length_cons, List.length_nil]; omega)
theorem rulesT_len (r : Rul) : (rulesT r).length ≤ 155 := rulesN_len r 5 (Nat.le_refl _)
def recLine (n m g : Int) : List UInt8 := dec n ++ [46, 32] ++ dec m ++ [43] ++ dec g
theorem recLine_len (n m g : Int) : (recLine n m g).length ≤ 66 := by
  have a := dec_len n; have c := dec_len m; have d := dec_len g
  unfold recLine; simp only [List.length_append, List.length_cons, List.length_nil]; omega
theorem runs_get (r : Rul) : ∀ (ms : List Int) (p : Pos) (k : Nat) (y : Res), (runs r p ms)[k]? = some y → y.move = nth ms k ∧ 0 ≤ y.move ∧ y.move ≤ 8 ∧ -96 ≤ y.gain ∧ y.gain ≤ 96
  | [], p, k, y, h => by simp [runs] at h
  | m :: ms, p, k, y, h => by
    rw [runs] at h
    by_cases hz : (make r p m).2 = 0
    · rw [if_pos hz] at h
      cases k with
      | zero =>
        have e : (make r p m).1 = y := Option.some.inj h
        have h1 := make_ok hz; have h2 := make_gain hz; have h3 := okP_bd h1.1
        rw [← e]; exact ⟨h1.2.2.2.2.1, by rw [h1.2.2.2.2.1]; omega, by rw [h1.2.2.2.2.1]; omega, h2.1, h2.2⟩
      | succ k => exact runs_get r ms _ k y h
    · rw [if_neg hz] at h; simp at h
theorem gains_nth {l : List Res} {k : Nat} {y : Res} (h : l[k]? = some y) : nth (gains l) k = y.gain := by
  unfold nth gains; rw [List.getD_eq_getElem?_getD, List.getElem?_map, h]; rfl
end Go.Proofs.YtdhmdaoijnnfjaaDoor.M

namespace Go.Proofs.YtdhmdaoijnnfjaaDoor.M
theorem getI_setI_me {l : List Int} {k v : Int} (h0 : 0 ≤ k) (h : k < l.length) : getI (setI l k v) k = v := by
  have : k.toNat < l.length := by omega
  simp [getI, setI, nth, List.getD, this]
theorem sow_up (r : Rul) {player : Int} (hp : player = 0 ∨ player = 1) (frm : Int) : ∀ (n : Nat) (place : Int) (ps ss path : List Int), ss.length = 2 →
    getI ss player ≤ getI (sow r player frm n place ps ss path).2.2.1 player ∧ (sow r player frm n place ps ss path).2.2.1.length = 2
  | 0, place, ps, ss, path, h => by rw [sow]; exact ⟨Int.le_refl _, h⟩
  | n + 1, place, ps, ss, path, h => by
    rw [sow]; split
    · obtain ⟨a, b⟩ := sow_up r hp frm n (nxt r player frm place) ps (setI ss player (getI ss player + 1)) (path ++ [nxt r player frm place]) (by rw [setI_length, h])
      rw [getI_setI_me (by omega) (by omega)] at a
      exact ⟨by omega, b⟩
    · exact sow_up r hp frm n _ _ ss _ h
theorem mv_up (r : Rul) {player : Int} (hp : player = 0 ∨ player = 1) : ∀ (n : Nat) (frm : Int) (s : Sw) (path : List Int) (x : Sw × List Int), s.stores.length = 2 → mv r player n frm s path = some x →
    getI s.stores player ≤ getI x.1.stores player ∧ x.1.stores.length = 2
  | 0, frm, s, path, x, h2, h => by simp [mv] at h
  | n + 1, frm, s, path, x, h2, h => by
    have hl := sow_up r hp frm (getI s.pits frm).toNat frm (setI s.pits frm 0) s.stores path h2
    have hl : getI s.stores player ≤ getI (lap r player frm s path).1.stores player ∧ (lap r player frm s path).1.stores.length = 2 := hl
    rw [mv] at h
    split at h
    · obtain ⟨a, b⟩ := mv_up r hp n _ _ _ x hl.2 h
      exact ⟨by omega, b⟩
    · injection h with h; subst h; exact hl
theorem sowMove_up {r : Rul} {p : Pos} {move : Int} (h : (sowMove r p move).1 = 0) : getI p.stores p.player ≤ getI (sowMove r p move).2.1.stores p.player ∧ (sowMove r p move).2.1.stores.length = 2 := by
  obtain ⟨ho, _⟩ := sowMove_ok h
  obtain ⟨r1, r2, g1, g2, g3, g4, g5⟩ := okP_bd ho
  unfold sowMove at *
  by_cases hc : sowCode r p move = 0
  case neg => rw [if_pos hc] at h; exact absurd h hc
  rw [if_neg (by simpa using hc)] at h ⊢
  cases hmv : mv r p.player 100 (p.player * r.pits + move) ⟨p.pits, p.stores, 0, 0⟩ [] with
  | none => rw [hmv] at h; simp at h
  | some x => exact mv_up r g5 100 _ ⟨p.pits, p.stores, 0, 0⟩ [] x g2 hmv
theorem isum_nn {l : List Int} (h : ∀ x ∈ l, 0 ≤ x) : 0 ≤ isum l := nn_isum h
theorem make_up {r : Rul} {p : Pos} {move : Int} (h : (make r p move).2 = 0) : 0 ≤ (make r p move).1.gain ∧ (make r p move).1.again = decide (p.player = (make r p move).1.next.player) := by
  have h1 := make_code (r := r) (p := p) (move := move)
  rw [h] at h1
  have hd := h1.symm
  obtain ⟨h2, h3⟩ := done_ok hd
  obtain ⟨hok, _, _, hG, _⟩ := sowMove_ok h2
  obtain ⟨r1, r2, g1, g2, g3, g4, g5⟩ := okP_bd hok
  obtain ⟨hu, hl⟩ := sowMove_up h2
  rw [make_yes hd]
  constructor
  · show 0 ≤ getI (done r p move).1.stores p.player - getI p.stores p.player
    rw [h3]
    show 0 ≤ getI (setI (sowMove r p move).2.1.stores p.player _) p.player - _
    rw [getI_setI_me (by omega) (by omega)]
    have : 0 ≤ isum ((captured r (sowMove r p move).2.1 p.player).map (getI (sowMove r p move).2.1.pits)) := isum_nn fun x hx => by
      obtain ⟨k, _, rfl⟩ := List.mem_map.1 hx
      exact (hG.pit k).1
    omega
  · show (r.again && decide ((done r p move).1.last = -1)) = decide (p.player = if (r.again && decide ((done r p move).1.last = -1)) = true then p.player else 1 - p.player)
    cases (r.again && decide ((done r p move).1.last = -1))
    · simp; omega
    · simp
def noteT (pl mv gn : Int) (ag : Bool) : List UInt8 :=
  if ag = true then (if 0 < gn then ([112, 108, 97, 121, 101, 114, 32] ++ dec pl ++ [32, 112, 108, 97, 121, 115, 32] ++ dec mv) ++ ([44, 32, 103, 97, 105, 110, 115, 32] ++ dec gn) else ([112, 108, 97, 121, 101, 114, 32] ++ dec pl ++ [32, 112, 108, 97, 121, 115, 32] ++ dec mv)) ++ [44, 32, 109, 111, 118, 101, 115, 32, 97, 103, 97, 105, 110]
  else (if 0 < gn then ([112, 108, 97, 121, 101, 114, 32] ++ dec pl ++ [32, 112, 108, 97, 121, 115, 32] ++ dec mv) ++ ([44, 32, 103, 97, 105, 110, 115, 32] ++ dec gn) else ([112, 108, 97, 121, 101, 114, 32] ++ dec pl ++ [32, 112, 108, 97, 121, 115, 32] ++ dec mv))
def notes (l : List (Pos × Res)) : List (List UInt8) := l.map fun x => noteT x.1.player x.2.move x.2.gain x.2.again
@[simp] theorem notes_length (l : List (Pos × Res)) : (notes l).length = l.length := by simp [notes]
theorem zip_get {P : List Pos} {R : List Res} {k : Nat} {p : Pos} {x : Res} (hp : P[k]? = some p) (hx : R[k]? = some x) : (P.zip R)[k]? = some (p, x) := by
  rw [List.getElem?_zip_eq_some]; exact ⟨hp, hx⟩
theorem notes_step {P : List Pos} {R : List Res} {out : List (List UInt8)} {k : Nat} {p : Pos} {x : Res} (h : out = notes ((P.zip R).take k)) (hp : P[k]? = some p) (hx : R[k]? = some x) :
    out ++ [noteT p.player x.move x.gain x.again] = notes ((P.zip R).take (k + 1)) := by
  rw [List.take_add_one, zip_get hp hx, h]; simp [notes]
def gameNotes (g : Gam) : List (List UInt8) := notes ((hist g.start (runs g.rules g.start g.moves)).zip (runs g.rules g.start g.moves))
def gameNotesR (g : Gam) : List (List UInt8) := if okG g = true then gameNotes g else []
theorem gameNotesR_yes {g : Gam} (h : okG g = true) : gameNotesR g = gameNotes g := by unfold gameNotesR; rw [if_pos h]
theorem gameNotesR_no {g : Gam} (h : okG g = false) : gameNotesR g = [] := by unfold gameNotesR; rw [if_neg (by simp [h])]
theorem gameNotes_len {g : Gam} (h : okG g = true) : (gameNotes g).length = g.moves.length := by
  obtain ⟨_, _, _, _, _, _, _, h8, _⟩ := okG_parts h
  unfold gameNotes; rw [notes_length, List.length_zip, hist_length, h8]; omega
theorem gameNotesR_len (g : Gam) : (gameNotesR g).length ≤ 120 := by
  cases h : okG g
  · rw [gameNotesR_no h]; simp
  · rw [gameNotesR_yes h, gameNotes_len h]; exact (okG_parts h).2.1
theorem notes_end {g : Gam} (h : okG g = true) {out : List (List UInt8)} {k : Nat} (ho : out = notes (((hist g.start (runs g.rules g.start g.moves)).zip (runs g.rules g.start g.moves)).take k)) (hk : g.moves.length ≤ k) : out = gameNotesR g := by
  rw [gameNotesR_yes h, ho, gameNotes, List.take_of_length_le]
  obtain ⟨_, _, _, _, _, _, _, h8, _⟩ := okG_parts h
  rw [List.length_zip, hist_length, h8]; omega
theorem runs_make (r : Rul) : ∀ (ms : List Int) (p0 : Pos) (k : Nat) (p : Pos) (x : Res), (hist p0 (runs r p0 ms))[k]? = some p → (runs r p0 ms)[k]? = some x → (make r p (nth ms k)).2 = 0 ∧ x = (make r p (nth ms k)).1
  | [], p0, k, p, x, hp, hx => by simp [runs] at hx
  | m :: ms, p0, k, p, x, hp, hx => by
    rw [runs] at hx hp
    by_cases hz : (make r p0 m).2 = 0
    · rw [if_pos hz] at hx hp
      cases k with
      | zero =>
        have e1 : p0 = p := Option.some.inj hp
        have e2 : (make r p0 m).1 = x := Option.some.inj hx
        subst e1; exact ⟨hz, e2.symm⟩
      | succ k =>
        have hp' : (hist (make r p0 m).1.next (runs r (make r p0 m).1.next ms))[k]? = some p := hp
        exact runs_make r ms _ k p x hp' hx
    · rw [if_neg hz] at hx; simp at hx
theorem hist_next {p0 : Pos} {R : List Res} {k : Nat} {q : Pos} (h : (hist p0 R)[k + 1]? = some q) : ∃ x, R[k]? = some x ∧ x.next = q := by
  have : (R.map (·.next))[k]? = some q := h
  rw [List.getElem?_map] at this
  obtain ⟨x, h1, h2⟩ := Option.map_eq_some_iff.1 this
  exact ⟨x, h1, h2⟩
theorem note_at {g : Gam} {k : Nat} {p : Pos} {x : Res} (hp : (hist g.start (runs g.rules g.start g.moves))[k]? = some p) (hx : (runs g.rules g.start g.moves)[k]? = some x) :
    (p.player = 0 ∨ p.player = 1) ∧ 0 ≤ x.move ∧ x.move ≤ 8 ∧ 0 ≤ x.gain ∧ x.gain ≤ 96 ∧ x.move = nth g.moves k ∧ x.again = decide (p.player = x.next.player) := by
  obtain ⟨h1, h2⟩ := runs_make _ _ _ _ _ _ hp hx
  obtain ⟨a1, a2, a3, a4, a5⟩ := runs_get _ _ _ _ _ hx
  have h3 := make_up h1
  have h4 := make_ok h1
  have h5 := okP_bd h4.1
  rw [← h2] at h3
  exact ⟨h5.2.2.2.2.2.2, a2, a3, h3.1, a5, a1, h3.2⟩
end Go.Proofs.YtdhmdaoijnnfjaaDoor.M

namespace Go.Proofs.YtdhmdaoijnnfjaaDoor
open Go.RowKit
instance {n : Int} : LenB (M.capName n) 9 := ⟨M.capName_len n⟩
instance {n : Int} : LenB (M.slamName n) 7 := ⟨M.slamName_len n⟩
instance {r : M.Rul} : LenB (M.rulesT r) 155 := ⟨M.rulesT_len r⟩
instance {a b c : Int} : LenB (M.recLine a b c) 66 := ⟨M.recLine_len a b c⟩
theorem strs_cellsok {w : World} : ∀ l : List (List UInt8), cellsOk w (l.map Ty.str) (txs_ l)
  | [] => trivial
  | x :: l => ⟨rfl, strs_cellsok l⟩
theorem strs_rowok {w : World} {e : TypeId} {n : Nat} {v : Value} {xs : List (List UInt8)} {g : List Nat} (h : (rowO e 1 v n (txs_ xs) g).pr w) : (Ty.strs e xs).ok w v := by
  have hl : n = xs.length := by have := h.1; rw [List.length_map] at this; omega
  subst hl
  exact row_ok h (strs_cellsok xs)
theorem txs_setL {xs : List (List UInt8)} {i : Nat} {v : List UInt8} (h : i < xs.length) : setL (txs_ xs) (0 + i * 1) [.string (sB v)] = txs_ (xs.set i v) := by
  rw [Nat.zero_add, Nat.mul_one]
  simp only [setL, txs_, List.map_set]
  rw [List.set_eq_take_append_cons_drop, if_pos (by simpa using h)]
  simp
theorem txs_lt {xs : List (List UInt8)} {i : Nat} (h : i < xs.length) : 0 + i * 1 + 1 ≤ (txs_ xs).length := by simp only [txs_, List.length_map]; omega
theorem q_toStr1 {P : Program} {n lo : Nat} {B : List Nat} {l : Fr} {os : List Own} {u : World} {dst : Option Tmp} {ty : TypeId} {pos : String} {af : Array Edge} {gd : Option (Nat × Bool)} {x : Operand} {src dt e e' : TypeId} {i m c : Nat} {A : Option Addr} {a : Int} {b : UInt8} {g : List Nat} (hs : P.underlying src = some (.slice e)) (he : P.underlying e = some (.int .u8)) (hd : P.underlying dt = some .string)
    (hx : opd l x = some (.slice A m c)) (hi : os[i]? = some (rowO e' 1 (.slice A m c) m [.int .u8 a] g)) (hb : (b.toNat : Int) = a) : OpQ P n lo B l os u ⟨dst, .convert src dt x, ty, pos, af, gd⟩ (.string (sB [b])) :=
  q_toStr (xs := [b]) hs he hd hx (by rw [hi, ← hb]; rfl)
def ownsRowS (w : World) (e : TypeId) (v : Value) (n : Nat) (xs : List Value) : Prop :=
  xs.length = n ∧ ∃ g cap cur fz, v = .slice (some ⟨g, 0, none⟩) n cap ∧ w.heap[g]? = some (.cells cur e fz) ∧ (fz.2 = 0 ∨ cap ≤ fz.1) ∧ n ≤ cap ∧ cap ≤ maxLen ∧ cur.size = cap ∧ cur.toList.take n = xs
theorem ownsRowS.cell {w : World} {e : TypeId} {g n cap : Nat} {xs : List Value} (h : ownsRowS w e (.slice (some ⟨g, 0, none⟩) n cap) n xs) (j : Nat) (u : Value) (hu : xs[j]? = some u) : w.cell? ⟨g, j, none⟩ = some u := by
  obtain ⟨_, g', cap', cur, fz, hv, hg, _, _, _, _, ht⟩ := h
  injection hv with hv _ _
  injection hv with hv
  injection hv with hv _ _
  subst hv
  rw [← ht, List.getElem?_take] at hu
  split at hu
  · simp [World.cell?, hg]; simpa using hu
  · cases hu
section
variable {P : Program}
variable {n lo : Nat} {B : List Nat} {l : Fr} {os : List Own} {u : World} {dst : Option Tmp} {ty : TypeId} {pos : String} {af : Array Edge} {gd : Option (Nat × Bool)}
end
end Go.Proofs.YtdhmdaoijnnfjaaDoor

namespace Go.Proofs.YtdhmdaoijnnfjaaDoor.M
def markT (k : Int) : List UInt8 := if k ≤ 0 then [109, 48] else [109] ++ dec k
theorem markT_z {k : Int} (h : k ≤ 0) : markT k = [109, 48] := by unfold markT; rw [if_pos h]
theorem markT_end {n : Int} {out : List UInt8} (h : DecI n 0 out) (hn : 0 < n) (h1 : n ≤ 9223372036854775807) : markT n = [109] ++ out := by
  unfold markT; rw [if_neg (by omega)]
  congr 1
  refine h.pos ?_ (by omega) (by omega) h1
  rcases h with ⟨a, _, _⟩ | ⟨_, ⟨a, _⟩ | ⟨_, rfl⟩⟩
  · omega
  · exact absurd rfl a
  · have := decDigits_pos n.natAbs; omega
def upT (k : Int) (n : Nat) : List (List UInt8) := (List.range n).map fun (i : Nat) => markT (k + (i : Int))
@[simp] theorem upT_length (k : Int) (n : Nat) : (upT k n).length = n := by simp [upT]
theorem upT_get {k : Int} {n i : Nat} (h : i < n) : (upT k n)[i]? = some (markT (k + (i : Int))) := by simp [upT, h]
theorem upT_succ (k : Int) (n : Nat) : upT k (n + 1) = upT k n ++ [markT (k + (n : Int))] := by simp [upT, List.range_succ]
def mkdT (a : List (List UInt8)) (k : Int) (i : Nat) : List (List UInt8) := upT k i ++ a.drop i
theorem mkdT_zero (a : List (List UInt8)) (k : Int) : a = mkdT a k 0 := by simp [mkdT, upT]
theorem set_zero_drop {α : Type} (x : α) : ∀ (l : List α) (i : Nat), i < l.length → (l.drop i).set 0 x = x :: l.drop (i + 1)
  | [], i, h => by simp at h
  | a :: l, 0, h => rfl
  | a :: l, i + 1, h => set_zero_drop x l i (by simpa using h)
theorem mkdT_step {a : List (List UInt8)} {k : Int} {i : Nat} (h : i < a.length) : (mkdT a k i).set i (markT (k + (i : Int))) = mkdT a k (i + 1) := by
  unfold mkdT
  rw [List.set_append_right _ _ (by simp), upT_length, Nat.sub_self, set_zero_drop _ _ _ h, upT_succ]
  simp
theorem mkdT_end {a : List (List UInt8)} {k : Int} {i : Nat} (h : i = a.length) : mkdT a k i = upT k a.length := by subst h; simp [mkdT]
def heldT (a : List (List UInt8)) (k : Int) : Int := if a = upT k a.length then k + a.length else -1
theorem heldT_up (k : Int) (n : Nat) : heldT (upT k n) k = k + n := by unfold heldT; rw [if_pos (by simp)]; simp
theorem heldT_no {a : List (List UInt8)} {k : Int} {i : Nat} {y : List UInt8} (hy : a[i]? = some y) (hn : y ≠ markT (k + (i : Int))) : heldT a k = -1 := by
  unfold heldT
  rw [if_neg]
  intro e
  have hi := (List.getElem?_eq_some_iff.1 hy).1
  rw [e, upT_get hi] at hy
  exact hn (Option.some.inj hy).symm
theorem heldT_yes {a : List (List UInt8)} {k : Int} {i : Nat} (h : i = a.length) (hu : a.take i = upT k i) : heldT a k = k + (i : Int) := by
  subst h
  unfold heldT
  rw [List.take_length] at hu
  rw [if_pos hu]
theorem heldT_step {a : List (List UInt8)} {k : Int} {i : Nat} {y : List UInt8} (hy : a[i]? = some y) (hu : a.take i = upT k i) (he : y = markT (k + (i : Int))) : a.take (i + 1) = upT k (i + 1) := by
  rw [List.take_add_one, hy, hu, upT_succ, he]; rfl
theorem not_ne {a b : List UInt8} (h : (!decide (a = b)) = false) : a = b := by simpa using h
theorem eqT_step {a b : List (List UInt8)} {k : Nat} {y z : List UInt8} (h : a.take k = b.take k) (hy : a[k]? = some y) (hz : b[k]? = some z) (e : y = z) : a.take (k + 1) = b.take (k + 1) := by
  rw [List.take_add_one, List.take_add_one, h, hy, hz, e]
theorem eqT_no {a b : List (List UInt8)} {k : Nat} {y z : List UInt8} (hy : a[k]? = some y) (hz : b[k]? = some z) (e : y ≠ z) : decide (a = b) = false := by
  rw [decide_eq_false_iff_not]
  rintro rfl
  exact e (Option.some.inj (hy.symm.trans hz))
theorem eqT_end {a b : List (List UInt8)} {k : Nat} (h : a.take k = b.take k) (h1 : a.length ≤ k) (h2 : a.length = b.length) : a = b := by
  rwa [List.take_of_length_le h1, List.take_of_length_le (by omega)] at h
end Go.Proofs.YtdhmdaoijnnfjaaDoor.M


/- Plain mathematics: maps; texts of rules that are checked, as the program does it. -/
import Derived.Test.YthdmaamdlibjaaaDoorZbA2
import Derived.MapKept
import Derived.Test.YthdmaamdlibjaaaDoorProg
import Derived.ProofKit
import Derived.SizedLaws
import Derived.Test.YthdmaamdlibjaaaDoorZbA1
import Derived.Laws.IdiomStrings
import Derived.Laws.IdiomCopy
import Derived.Laws.Slices
import Derived.Laws.Strings2
set_option linter.unusedSimpArgs false
set_option linter.unusedVariables false
namespace Go.Proofs.YthdmaamdlibjaaaDoor.M
def mget {α : Type} [DecidableEq α] : List (α × Int) → α → Option Int
  | [], _ => none
  | p :: r, k => if p.1 = k then some p.2 else mget r k
def mput {α : Type} [DecidableEq α] : List (α × Int) → α → Int → List (α × Int)
  | [], k, v => [(k, v)]
  | p :: r, k, v => if p.1 = k then (k, v) :: r else p :: mput r k v
def mhas {α : Type} [DecidableEq α] (g : List (α × Int)) (k : α) : Bool := (mget g k).isSome
def mval {α : Type} [DecidableEq α] (g : List (α × Int)) (k : α) : Int := (mget g k).getD 0
theorem mget_put {α : Type} [DecidableEq α] (k : α) (v : Int) (j : α) : ∀ g : List (α × Int), mget (mput g k v) j = if k = j then some v else mget g j
  | [] => by simp [mput, mget]
  | p :: r => by
    rw [mput]
    by_cases h : p.1 = k
    · rw [if_pos h, mget, mget]
      by_cases h2 : k = j
      · rw [if_pos h2, if_pos h2]
      · rw [if_neg h2, if_neg h2, if_neg (by rw [h]; exact h2)]
    · rw [if_neg h, mget, mget_put k v j r, mget]
      by_cases h2 : k = j
      · rw [if_pos h2, if_pos h2, if_neg (by rw [← h2]; exact h)]
      · rw [if_neg h2, if_neg h2]
theorem mhas_put {α : Type} [DecidableEq α] (g : List (α × Int)) (k : α) (v : Int) (j : α) : mhas (mput g k v) j = (decide (k = j) || mhas g j) := by
  unfold mhas
  rw [mget_put]
  by_cases h : k = j <;> simp [h]
theorem idx_get : ∀ {l : List (List UInt8)} {s : List UInt8}, 0 ≤ idx l s → l[(idx l s).toNat]? = some s
  | [], _, h => by simp [idx] at h
  | x :: l, s, h => by
    rw [idx] at h ⊢
    by_cases h0 : x = s
    · rw [if_pos h0]; simp [h0]
    · rw [if_neg h0] at h ⊢
      have hb := idx_bd l s
      by_cases h1 : idx l s = -1
      · rw [if_pos h1] at h; exact absurd h (by decide)
      · rw [if_neg h1] at h ⊢
        rw [show (idx l s + 1).toNat = (idx l s).toNat + 1 by omega, List.getElem?_cons_succ]
        exact idx_get (by omega)
theorem idx_inj {l : List (List UInt8)} {s t : List UInt8} (h : 0 ≤ idx l s) (e : (idx l s).toNat = (idx l t).toNat) (h2 : 0 ≤ idx l t) : s = t := by
  have a := idx_get h
  rw [e, idx_get h2] at a
  exact (Option.some.inj a).symm
def setNum (r : Rul) (y : List UInt8) (n : Int) : Rul :=
  if y = [112, 105, 116, 115] then ⟨n, r.seeds, r.stores, r.skip, r.relay, r.feed, r.again, r.capture, r.slam⟩ else
  if y = [115, 101, 101, 100, 115] then ⟨r.pits, n, r.stores, r.skip, r.relay, r.feed, r.again, r.capture, r.slam⟩ else
  if y = [99, 97, 112, 116, 117, 114, 101] then ⟨r.pits, r.seeds, r.stores, r.skip, r.relay, r.feed, r.again, n, r.slam⟩ else
  ⟨r.pits, r.seeds, r.stores, r.skip, r.relay, r.feed, r.again, r.capture, n⟩
def setFlg (r : Rul) (y : List UInt8) : Rul :=
  if y = [115, 116, 111, 114, 101, 115] then ⟨r.pits, r.seeds, true, r.skip, r.relay, r.feed, r.again, r.capture, r.slam⟩ else
  if y = [115, 107, 105, 112] then ⟨r.pits, r.seeds, r.stores, true, r.relay, r.feed, r.again, r.capture, r.slam⟩ else
  if y = [114, 101, 108, 97, 121] then ⟨r.pits, r.seeds, r.stores, r.skip, true, r.feed, r.again, r.capture, r.slam⟩ else
  if y = [102, 101, 101, 100] then ⟨r.pits, r.seeds, r.stores, r.skip, r.relay, true, r.again, r.capture, r.slam⟩ else
  ⟨r.pits, r.seeds, r.stores, r.skip, r.relay, r.feed, true, r.capture, r.slam⟩
def pitsT : List UInt8 := [112, 105, 116, 115]
def seedsT : List UInt8 := [115, 101, 101, 100, 115]
def captT : List UInt8 := [99, 97, 112, 116, 117, 114, 101]
def slamT : List UInt8 := [115, 108, 97, 109]
def storT : List UInt8 := [115, 116, 111, 114, 101, 115]
def agaiT : List UInt8 := [97, 103, 97, 105, 110]
def valP (y t : List UInt8) : Int × Int :=
  if y = captT then (if idx capNames t < 0 then (0, 4) else (idx capNames t, 0)) else
  if y = slamT then (if idx slamNames t < 0 then (0, 4) else (idx slamNames t, 0)) else
  if (num t).2 = false then (0, 3) else
  if y = pitsT ∧ betw (num t).1 2 8 = false ∨ y = seedsT ∧ betw (num t).1 1 6 = false then (0, 4) else ((num t).1, 0)
def valR (r : Rul) (y t : List UInt8) : Rul := if (valP y t).2 = 0 then setNum r y (valP y t).1 else r
theorem valP_z {y t : List UInt8} (h : (valP y t).2 ≠ 0) : (valP y t).1 = 0 := by
  unfold valP at h ⊢
  split
  · split
    · rfl
    · rename_i a b; rw [if_pos a, if_neg b] at h; exact absurd rfl h
  · split
    · split
      · rfl
      · rename_i c a b; rw [if_neg c, if_pos a, if_neg b] at h; exact absurd rfl h
    · split
      · rfl
      · split
        · rfl
        · rename_i a b c d; rw [if_neg a, if_neg b, if_neg c, if_neg d] at h; exact absurd rfl h
theorem p34 {a : Int} : ((a, (0 : Int)) : Int × Int).2 ≠ 1 ∧ ((a, (0 : Int)) : Int × Int).2 ≠ 2 := ⟨fun h => absurd (show (0 : Int) = 1 from h) (show ¬ (0 : Int) = 1 by decide), fun h => absurd (show (0 : Int) = 2 from h) (show ¬ (0 : Int) = 2 by decide)⟩
theorem valP_ne (y t : List UInt8) : (valP y t).2 ≠ 1 ∧ (valP y t).2 ≠ 2 := by
  unfold valP
  split
  · split
    · exact ⟨by decide, by decide⟩
    · exact p34
  · split
    · split
      · exact ⟨by decide, by decide⟩
      · exact p34
    · split
      · exact ⟨by decide, by decide⟩
      · split
        · exact ⟨by decide, by decide⟩
        · exact p34
theorem valP_pits (t : List UInt8) : valP pitsT t = if (num t).2 = false then (0, 3) else if betw (num t).1 2 8 = false then (0, 4) else ((num t).1, 0) := by
  unfold valP
  rw [if_neg (show ¬ pitsT = captT by decide), if_neg (show ¬ pitsT = slamT by decide)]
  have h1 : ¬ pitsT = seedsT := by decide
  simp [h1]
theorem valP_seeds (t : List UInt8) : valP seedsT t = if (num t).2 = false then (0, 3) else if betw (num t).1 1 6 = false then (0, 4) else ((num t).1, 0) := by
  unfold valP
  rw [if_neg (show ¬ seedsT = captT by decide), if_neg (show ¬ seedsT = slamT by decide)]
  have h1 : ¬ seedsT = pitsT := by decide
  simp [h1]
theorem valP_capt (t : List UInt8) : valP captT t = if idx capNames t < 0 then (0, 4) else (idx capNames t, 0) := by
  unfold valP; rw [if_pos rfl]
theorem valP_slam (t : List UInt8) : valP slamT t = if idx slamNames t < 0 then (0, 4) else (idx slamNames t, 0) := by
  unfold valP; rw [if_neg (show ¬ slamT = captT by decide), if_pos rfl]
structure Rdr where
  rules : Rul
  problems : List Prb
  given : List (List UInt8 × Int)
def rdU (x : Rdr) (a : Int) (w : List UInt8) (y t : List UInt8) (e : Bool) : Rdr :=
  if e = true ∧ isNum y = false ∨ e = false ∧ isFlg y = false then ⟨x.rules, x.problems ++ [⟨1, a, w⟩], x.given⟩ else
  if mhas x.given y = true then ⟨x.rules, x.problems ++ [⟨2, a, w⟩], x.given⟩ else
  if e = true then ⟨valR x.rules y t, if (valP y t).2 = 0 then x.problems else x.problems ++ [⟨(valP y t).2, a, w⟩], mput x.given y a⟩ else
  ⟨setFlg x.rules y, x.problems, mput x.given y a⟩
def rdW (x : Rdr) (a : Int) (w : List UInt8) : Rdr := rdU x a w (cutS w [61]).1 (cutS w [61]).2.1 (cutS w [61]).2.2
def wrdP (y t : List UInt8) (e : Bool) : Int × Int × Int :=
  if idx fieldNames y < 0 ∨ e = betw (idx fieldNames y) 2 6 then (0, 0, 1) else
  if idx fieldNames y = 0 ∨ idx fieldNames y = 1 then
    if (num t).2 = false then (idx fieldNames y, 0, 3) else
    if idx fieldNames y = 0 ∧ betw (num t).1 2 8 = false ∨ idx fieldNames y = 1 ∧ betw (num t).1 1 6 = false then (idx fieldNames y, 0, 4) else
    (idx fieldNames y, (num t).1, 0)
  else if idx fieldNames y = 7 ∨ idx fieldNames y = 8 then
    if idx (if idx fieldNames y = 8 then slamNames else capNames) t < 0 then (idx fieldNames y, 0, 4) else
    (idx fieldNames y, idx (if idx fieldNames y = 8 then slamNames else capNames) t, 0)
  else (idx fieldNames y, 1, 0)
theorem wrd_P (w : List UInt8) : wrd w = wrdP (cutS w [61]).1 (cutS w [61]).2.1 (cutS w [61]).2.2 := rfl
theorem wrdP_num {y t : List UInt8} (h : isNum y = true) : wrdP y t true = ((numIx y : Int), (valP y t).1, (valP y t).2) ∧ idx fieldNames y = (numIx y : Int) ∧ wrdP y t false = (0, 0, 1) ∧ isFlg y = false := by
  rcases isNum_iff h with rfl | rfl | rfl | rfl
  · refine ⟨?_, rfl, rfl, rfl⟩
    show (if (num t).2 = false then ((0 : Int), (0 : Int), (3 : Int)) else if (0 : Int) = 0 ∧ betw (num t).1 2 8 = false ∨ (0 : Int) = 1 ∧ betw (num t).1 1 6 = false then (0, 0, 4) else (0, (num t).1, 0)) = ((0 : Int), (valP pitsT t).1, (valP pitsT t).2)
    rw [valP_pits]
    by_cases h1 : (num t).2 = false
    · rw [if_pos h1, if_pos h1]
    · rw [if_neg h1, if_neg h1]
      by_cases h2 : betw (num t).1 2 8 = false
      · rw [if_pos (.inl ⟨rfl, h2⟩), if_pos h2]
      · rw [if_neg (fun h => h.elim (fun b => h2 b.2) (fun b => absurd b.1 (by decide))), if_neg h2]
  · refine ⟨?_, rfl, rfl, rfl⟩
    show (if (num t).2 = false then ((1 : Int), (0 : Int), (3 : Int)) else if (1 : Int) = 0 ∧ betw (num t).1 2 8 = false ∨ (1 : Int) = 1 ∧ betw (num t).1 1 6 = false then (1, 0, 4) else (1, (num t).1, 0)) = ((1 : Int), (valP seedsT t).1, (valP seedsT t).2)
    rw [valP_seeds]
    by_cases h1 : (num t).2 = false
    · rw [if_pos h1, if_pos h1]
    · rw [if_neg h1, if_neg h1]
      by_cases h2 : betw (num t).1 1 6 = false
      · rw [if_pos (.inr ⟨rfl, h2⟩), if_pos h2]
      · rw [if_neg (fun h => h.elim (fun b => absurd b.1 (by decide)) (fun b => h2 b.2)), if_neg h2]
  · refine ⟨?_, rfl, rfl, rfl⟩
    show (if idx capNames t < 0 then ((7 : Int), (0 : Int), (4 : Int)) else (7, idx capNames t, 0)) = ((7 : Int), (valP captT t).1, (valP captT t).2)
    rw [valP_capt]
    by_cases h1 : idx capNames t < 0
    · rw [if_pos h1, if_pos h1]
    · rw [if_neg h1, if_neg h1]
  · refine ⟨?_, rfl, rfl, rfl⟩
    show (if idx slamNames t < 0 then ((8 : Int), (0 : Int), (4 : Int)) else (8, idx slamNames t, 0)) = ((8 : Int), (valP slamT t).1, (valP slamT t).2)
    rw [valP_slam]
    by_cases h1 : idx slamNames t < 0
    · rw [if_pos h1, if_pos h1]
    · rw [if_neg h1, if_neg h1]
theorem isFlg_iff5 {y : List UInt8} (h : isFlg y = true) : y = [115, 116, 111, 114, 101, 115] ∨ y = [115, 107, 105, 112] ∨ y = [114, 101, 108, 97, 121] ∨ y = [102, 101, 101, 100] ∨ y = [97, 103, 97, 105, 110] := by
  have h9 := isFlg_iff h
  simpa [fNames] using h9
theorem wrdP_flg {y t : List UInt8} (h : isFlg y = true) : wrdP y t false = ((flagIx y : Int), 1, 0) ∧ idx fieldNames y = (flagIx y : Int) ∧ wrdP y t true = (0, 0, 1) ∧ isNum y = false := by
  rcases isFlg_iff5 h with rfl | rfl | rfl | rfl | rfl <;> exact ⟨rfl, rfl, rfl, rfl⟩
theorem wrdP_no {y t : List UInt8} {e : Bool} (h : isNum y = false) (h2 : isFlg y = false) : wrdP y t e = (0, 0, 1) := by
  obtain ⟨a1, a2, a3, a4⟩ := isNum_no h
  obtain ⟨b1, b2, b3, b4, b5⟩ := isFlg_no h2
  have : idx fieldNames y < 0 := by
    have : Nix fieldNames y 9 := fun i _ e => by
      have := List.mem_of_getElem? e
      simp only [fieldNames, List.mem_cons, List.not_mem_nil, or_false] at this
      rcases this with rfl | rfl | rfl | rfl | rfl | rfl | rfl | rfl | rfl <;> contradiction
    rw [this.miss (Nat.le_refl _)]; decide
  unfold wrdP; rw [if_pos (.inl this)]
theorem rulV_num {v : List Int} (hv : v.length = 9) {y : List UInt8} (h : isNum y = true) (n : Int) : rulV (setI v (numIx y : Int) n) = setNum (rulV v) y n := by
  match v, hv with
  | [a0, a1, a2, a3, a4, a5, a6, a7, a8], _ => rcases isNum_iff h with rfl | rfl | rfl | rfl <;> rfl
theorem rulV_flg {v : List Int} (hv : v.length = 9) {y : List UInt8} (h : isFlg y = true) : rulV (setI v (flagIx y : Int) 1) = setFlg (rulV v) y := by
  match v, hv with
  | [a0, a1, a2, a3, a4, a5, a6, a7, a8], _ => rcases isFlg_iff5 h with rfl | rfl | rfl | rfl | rfl <;> rfl
theorem blt_set {l : List Bool} {k j : Nat} (hk : k < l.length) : blt (l.set k true) j = (decide (j = k) || blt l j) := by
  unfold blt
  by_cases h : j = k
  · subst h; simp [List.getD, hk]
  · simp [List.getD, List.getElem?_set, h, show ¬ k = j from fun e => h e.symm]
theorem nth_setI {l : List Int} {k : Int} {n : Int} {j : Nat} (h : ¬ (j : Int) = k) (h0 : 0 ≤ k) : nth (setI l k n) j = nth l j := by
  unfold nth setI
  have : ¬ k.toNat = j := by omega
  simp [List.getD, List.getElem?_set, this]
theorem setI_same {l : List Int} {k : Int} (h : nth l k.toNat = 0) : setI l k 0 = l := by
  unfold setI
  apply List.ext_getElem?
  intro i
  rw [List.getElem?_set]
  split
  · rename_i e
    subst e
    split
    · rename_i hlt
      rw [nth_eq hlt] at h
      rw [List.getElem?_eq_getElem hlt, h]
    · rename_i hlt
      rw [List.getElem?_eq_none (by omega)]
  · rfl
theorem nth_setI_eq {l : List Int} {k : Int} {n : Int} (h : k.toNat < l.length) : nth (setI l k n) k.toNat = n := by
  unfold nth setI; simp [List.getD, h]
structure RelC (x : Rdr) (c : Chk) : Prop where
  r : x.rules = rulV c.v
  p : x.problems = c.out
  g : ∀ y, mhas x.given y = (decide (0 ≤ idx fieldNames y) && blt c.seen (idx fieldNames y).toNat)
  lv : c.v.length = 9
  ls : c.seen.length = 9
  a : blt c.seen 6 = true → mget x.given agaiT = some c.again
  z : ∀ k, blt c.seen k = false → nth c.v k = 0
  f6 : blt c.seen 6 = true → nth c.v 6 = 1
  f2 : blt c.seen 2 = true → nth c.v 2 = 1
theorem rep_b (n k : Nat) : (List.replicate n false).getD k false = false := by
  rw [List.getD_eq_getElem?_getD, List.getElem?_replicate]; split <;> rfl
theorem rep_i (n k : Nat) : (List.replicate n (0 : Int)).getD k 0 = 0 := by
  rw [List.getD_eq_getElem?_getD, List.getElem?_replicate]; split <;> rfl
theorem RelC.zero : RelC ⟨⟨0, 0, false, false, false, false, false, 0, 0⟩, [], []⟩ Chk.zero := by
  refine ⟨rfl, rfl, fun y => ?_, rfl, rfl, fun h => absurd h (by decide), fun k _ => rep_i 9 k, fun h => absurd h (by decide), fun h => absurd h (by decide)⟩
  have : blt Chk.zero.seen (idx fieldNames y).toNat = false := rep_b 9 _
  rw [this]; simp [mhas, mget]
theorem RelC.put {x : Rdr} {c : Chk} (h : RelC x c) {y : List UInt8} {k : Nat} (a : Int) (hi : idx fieldNames y = (k : Int)) (hk : k < 9) (y' : List UInt8) :
    mhas (mput x.given y a) y' = (decide (0 ≤ idx fieldNames y') && blt (c.seen.set k true) (idx fieldNames y').toNat) := by
  rw [mhas_put, h.g, blt_set (by have := h.ls; omega)]
  by_cases e : y = y'
  · subst e; rw [hi]; simp
  · by_cases h0 : 0 ≤ idx fieldNames y'
    · have : ¬ (idx fieldNames y').toNat = k := fun e2 => e (idx_inj (l := fieldNames) (by rw [hi]; omega) (by rw [hi, e2]; simp) h0)
      simp [e, h0, this]
    · simp [e, h0]
theorem agai_idx : idx fieldNames agaiT = 6 := by decide
theorem stor_idx : idx fieldNames storT = 2 := by decide
section
variable {c : Chk} {w : List UInt8} {a i n q : Int}
theorem chkS_u (e : wrd w = (i, n, q)) (h : q = 1) : chkS c w a = ⟨c.v, c.seen, c.again, c.out ++ [⟨1, a, w⟩]⟩ := by
  have hK : chkK c w = 1 := by unfold chkK; rw [if_neg (by rw [e]; simp [h]), e]; exact h
  unfold chkS; rw [hK, if_pos (.inl rfl)]
theorem chkS_t (e : wrd w = (i, n, q)) (h : q ≠ 1) (hb : blt c.seen i.toNat = true) : chkS c w a = ⟨c.v, c.seen, c.again, c.out ++ [⟨2, a, w⟩]⟩ := by
  have hK : chkK c w = 2 := by unfold chkK; rw [if_pos (by rw [e]; exact ⟨h, hb⟩)]
  unfold chkS; rw [hK, if_pos (.inr rfl)]
theorem chkS_n (e : wrd w = (i, n, q)) (h : q ≠ 1) (h2 : q ≠ 2) (hb : blt c.seen i.toNat = false) : chkS c w a = ⟨setI c.v i n, c.seen.set i.toNat true, if i = 6 then a else c.again, if q = 0 then c.out else c.out ++ [⟨q, a, w⟩]⟩ := by
  have hK : chkK c w = q := by unfold chkK; rw [if_neg (by rw [e]; simp [hb]), e]
  unfold chkS; rw [hK, if_neg (by rintro (h9 | h9); exact h h9; exact h2 h9), e]
end
theorem RelC.step {x : Rdr} {c : Chk} (h : RelC x c) (a : Int) (w : List UInt8) : RelC (rdW x a w) (chkS c w a) := by
  have hw := wrd_P w
  unfold rdW
  generalize (cutS w [61]).1 = y at hw ⊢
  generalize (cutS w [61]).2.1 = t at hw ⊢
  generalize (cutS w [61]).2.2 = e at hw ⊢
  have unk : wrd w = (0, 0, 1) → RelC ⟨x.rules, x.problems ++ [⟨1, a, w⟩], x.given⟩ (chkS c w a) := fun e1 => by
    rw [chkS_u e1 rfl]
    exact ⟨h.r, by show x.problems ++ _ = c.out ++ _; rw [h.p], h.g, h.lv, h.ls, h.a, h.z, h.f6, h.f2⟩
  have twi : ∀ {k : Nat} {n q : Int}, wrd w = ((k : Int), n, q) → q ≠ 1 → blt c.seen k = true → RelC ⟨x.rules, x.problems ++ [⟨2, a, w⟩], x.given⟩ (chkS c w a) := fun {k n q} e1 hq hb => by
    rw [chkS_t e1 hq (by simpa using hb)]
    exact ⟨h.r, by show x.problems ++ _ = c.out ++ _; rw [h.p], h.g, h.lv, h.ls, h.a, h.z, h.f6, h.f2⟩
  have has : ∀ {k : Nat}, idx fieldNames y = (k : Int) → mhas x.given y = blt c.seen k := fun {k} hi => by rw [h.g, hi]; simp
  unfold rdU
  cases hn : isNum y with
  | true =>
    obtain ⟨q1, q2, q3, q4⟩ := wrdP_num (t := t) hn
    cases e with
    | false => rw [if_pos (.inr ⟨rfl, q4⟩)]; exact unk (hw.trans q3)
    | true =>
      rw [if_neg (by simp)]
      have hw' := hw.trans q1
      obtain ⟨v1, v2⟩ := valP_ne y t
      have hk9 : numIx y < 9 ∧ numIx y ≠ 6 ∧ numIx y ≠ 2 := by
        rcases isNum_iff hn with rfl | rfl | rfl | rfl <;> decide
      rw [has q2]
      cases hb : blt c.seen (numIx y) with
      | true => rw [if_pos rfl]; exact twi hw' v1 hb
      | false =>
        rw [if_neg (by decide), if_pos rfl]
        rw [chkS_n hw' v1 v2 (by rw [Int.toNat_natCast]; exact hb), Int.toNat_natCast]
        refine ⟨?_, ?_, h.put a q2 hk9.1, by rw [setI_length]; exact h.lv, by rw [List.length_set]; exact h.ls, fun hs => ?_, fun k hs => ?_, fun hs => ?_, fun hs => ?_⟩
        · dsimp only
          unfold valR
          by_cases h0 : (valP y t).2 = 0
          · rw [if_pos h0, rulV_num h.lv hn, h.r]
          · rw [if_neg h0, valP_z h0, setI_same (by rw [Int.toNat_natCast]; exact h.z _ hb), h.r]
        · dsimp only; rw [h.p]
        · have hs' : blt c.seen 6 = true := by
            have := hs
            dsimp only at this
            rw [blt_set (by have := h.ls; omega)] at this
            simpa [hk9.2.1.symm] using this
          dsimp only
          rw [if_neg (by have := hk9.2.1; omega), mget_put, if_neg (by intro e2; subst e2; exact absurd hn (by decide))]
          exact h.a hs'
        · dsimp only at hs ⊢
          rw [blt_set (by have := h.ls; omega)] at hs
          simp only [Bool.or_eq_false_iff, decide_eq_false_iff_not] at hs
          rw [nth_setI (by have := hs.1; omega) (by omega)]
          exact h.z k hs.2
        · dsimp only at hs ⊢
          rw [blt_set (by have := h.ls; omega)] at hs
          have hs' : blt c.seen 6 = true := by simpa [hk9.2.1.symm] using hs
          rw [nth_setI (by have := hk9.2.1; omega) (by omega)]
          exact h.f6 hs'
        · dsimp only at hs ⊢
          rw [blt_set (by have := h.ls; omega)] at hs
          have hs' : blt c.seen 2 = true := by simpa [hk9.2.2.symm] using hs
          rw [nth_setI (by have := hk9.2.2; omega) (by omega)]
          exact h.f2 hs'
  | false =>
    cases hf : isFlg y with
    | false => rw [if_pos (by cases e; exact .inr ⟨rfl, rfl⟩; exact .inl ⟨rfl, rfl⟩)]; exact unk (hw.trans (wrdP_no hn hf))
    | true =>
      obtain ⟨q1, q2, q3, q4⟩ := wrdP_flg (t := t) hf
      cases e with
      | true => rw [if_pos (.inl ⟨rfl, rfl⟩)]; exact unk (hw.trans q3)
      | false =>
        rw [if_neg (by simp)]
        have hw' := hw.trans q1
        have hk9 : flagIx y < 9 ∧ (flagIx y = 6 → y = agaiT) ∧ (flagIx y ≠ 6 → y ≠ agaiT) := by
          rcases isFlg_iff5 hf with rfl | rfl | rfl | rfl | rfl <;> decide
        rw [has q2]
        cases hb : blt c.seen (flagIx y) with
        | true => rw [if_pos rfl]; exact twi hw' (by decide) hb
        | false =>
          rw [if_neg (by decide), if_neg (by decide)]
          rw [chkS_n hw' (by decide) (by decide) (by rw [Int.toNat_natCast]; exact hb), Int.toNat_natCast, if_pos rfl]
          refine ⟨?_, h.p, h.put a q2 hk9.1, by rw [setI_length]; exact h.lv, by rw [List.length_set]; exact h.ls, fun hs => ?_, fun k hs => ?_, fun hs => ?_, fun hs => ?_⟩
          · dsimp only; rw [rulV_flg h.lv hf, h.r]
          · dsimp only at hs ⊢
            rw [blt_set (by have := h.ls; omega)] at hs
            by_cases h6 : flagIx y = 6
            · rw [if_pos (by omega), mget_put, if_pos (hk9.2.1 h6)]
            · rw [if_neg (by omega), mget_put, if_neg (hk9.2.2 h6)]
              exact h.a (by simpa [show ¬ 6 = flagIx y from fun e2 => h6 e2.symm] using hs)
          · dsimp only at hs ⊢
            rw [blt_set (by have := h.ls; omega)] at hs
            simp only [Bool.or_eq_false_iff, decide_eq_false_iff_not] at hs
            rw [nth_setI (by have := hs.1; omega) (by omega)]
            exact h.z k hs.2
          · dsimp only at hs ⊢
            rw [blt_set (by have := h.ls; omega)] at hs
            by_cases h6 : 6 = flagIx y
            · have := nth_setI_eq (l := c.v) (k := (flagIx y : Int)) (n := 1) (by have := h.lv; omega)
              rw [Int.toNat_natCast, ← h6] at this; rw [← h6]; exact this
            · rw [nth_setI (by omega) (by omega)]
              exact h.f6 (by simpa [h6] using hs)
          · dsimp only at hs ⊢
            rw [blt_set (by have := h.ls; omega)] at hs
            by_cases h6 : 2 = flagIx y
            · have := nth_setI_eq (l := c.v) (k := (flagIx y : Int)) (n := 1) (by have := h.lv; omega)
              rw [Int.toNat_natCast, ← h6] at this; rw [← h6]; exact this
            · rw [nth_setI (by omega) (by omega)]
              exact h.f2 (by simpa [h6] using hs)
def pNames : List (List UInt8) := [pitsT, seedsT]
def misN (g : List (List UInt8 × Int)) (m : Int) : Nat → List Prb
  | 0 => []
  | k + 1 => misN g m k ++ (if mhas g (wdn pNames k) = true then [] else [⟨5, m, wdn pNames k⟩])
def misE (g : List (List UInt8 × Int)) : List Prb := if mhas g agaiT = true ∧ mhas g storT = false then [⟨6, mval g agaiT, agaiT⟩] else []
def mis (g : List (List UInt8 × Int)) (m : Int) : List Prb := misN g m 2 ++ misE g
theorem misN_len (g : List (List UInt8 × Int)) (m : Int) : ∀ k, (misN g m k).length ≤ k
  | 0 => Nat.le_refl _
  | k + 1 => by
    have := misN_len g m k
    rw [misN, List.length_append]
    split <;> simp only [List.length_cons, List.length_nil] <;> omega
theorem RelC.missing {x : Rdr} {s : List UInt8} (h : RelC x (chkA s)) : x.problems ++ mis x.given (s.length : Int) = chkO s := by
  have hp : ∀ k : Nat, k ≤ 2 → x.problems ++ misN x.given (s.length : Int) k = chkM s k := by
    intro k hk
    induction k with
    | zero => rw [misN, List.append_nil]; exact h.p
    | succ k ih =>
      have hk' : k = 0 ∨ k = 1 := by omega
      have e : mhas x.given (wdn pNames k) = blt (chkA s).seen k ∧ wdn pNames k = wdn fieldNames k := by
        rcases hk' with rfl | rfl
        · exact ⟨by rw [show wdn pNames 0 = pitsT from rfl, h.g, show idx fieldNames pitsT = 0 from by decide]; simp, rfl⟩
        · exact ⟨by rw [show wdn pNames 1 = seedsT from rfl, h.g, show idx fieldNames seedsT = 1 from by decide]; simp, rfl⟩
      rw [misN, ← List.append_assoc, ih (by omega), chkM, e.1, e.2]
  unfold mis chkO
  rw [← List.append_assoc, hp 2 (Nat.le_refl _)]
  congr 1
  unfold misE
  have h6 : mhas x.given agaiT = blt (chkA s).seen 6 := by rw [h.g, agai_idx]; simp
  have h2 : mhas x.given storT = blt (chkA s).seen 2 := by rw [h.g, stor_idx]; simp
  by_cases a : blt (chkA s).seen 6 = true
  · by_cases b : blt (chkA s).seen 2 = true
    · rw [if_neg (by rw [h2, b]; simp), if_neg (by rw [h.f2 b]; simp)]
    · have b' : blt (chkA s).seen 2 = false := by simpa using b
      rw [if_pos ⟨by rw [h6]; exact a, by rw [h2]; exact b'⟩, if_pos ⟨h.f6 a, h.z 2 b'⟩]
      have : mval x.given agaiT = (chkA s).again := by unfold mval; rw [h.a a]; rfl
      rw [this]; rfl
  · have a' : blt (chkA s).seen 6 = false := by simpa using a
    rw [if_neg (by rw [h6, a']; simp), if_neg (by rw [h.z 6 a']; simp)]
structure PtI (s : List UInt8) (j : Nat) (a : Int) (k : Nat) : Prop where
  w : (wds s).drop k = ((split 32 s).drop j).filter (fun w => decide (w ≠ []))
  p : (pls s).drop k = plsW a ((split 32 s).drop j)
  a0 : 0 ≤ a ∧ a ≤ (s.length : Int) + 1
  l : (split 32 s).drop j ≠ [] → a + ((joinW 32 ((split 32 s).drop j)).length : Int) = (s.length : Int)
theorem PtI.zero (s : List UInt8) : PtI s 0 0 0 := ⟨rfl, rfl, by omega, fun _ => by rw [List.drop_zero, joinW_split]; omega⟩
theorem PtI.next {s y : List UInt8} {j : Nat} {a : Int} {k : Nat} (h : PtI s j a k) (hy : (split 32 s)[j]? = some y) : (0 ≤ a + (y.length : Int) + 1 ∧ a + (y.length : Int) + 1 ≤ (s.length : Int) + 1) ∧ ((split 32 s).drop (j + 1) ≠ [] → a + (y.length : Int) + 1 + ((joinW 32 ((split 32 s).drop (j + 1))).length : Int) = (s.length : Int)) := by
  obtain ⟨hj, hy'⟩ := List.getElem?_eq_some_iff.1 hy
  have e : (split 32 s).drop j = y :: (split 32 s).drop (j + 1) := by rw [List.drop_eq_getElem_cons hj, hy']
  have hl := h.l (by rw [e]; simp)
  have h0 := h.a0
  rw [e] at hl
  cases hr : (split 32 s).drop (j + 1) with
  | nil =>
    rw [hr] at hl
    have : joinW 32 [y] = y := rfl
    rw [this] at hl
    exact ⟨by omega, fun h => absurd rfl h⟩
  | cons v ws =>
    rw [hr] at hl
    rw [joinW_cons 32 y (by simp), List.length_append, List.length_cons] at hl
    refine ⟨by omega, fun _ => by omega⟩
theorem PtI.blank {s : List UInt8} {j : Nat} {a : Int} {k : Nat} (h : PtI s j a k) (hy : (split 32 s)[j]? = some []) : PtI s (j + 1) (a + (([] : List UInt8).length : Int) + 1) k := by
  obtain ⟨h1, h2⟩ := h.next hy
  obtain ⟨hj, hy'⟩ := List.getElem?_eq_some_iff.1 hy
  have e : (split 32 s).drop j = [] :: (split 32 s).drop (j + 1) := by rw [List.drop_eq_getElem_cons hj, hy']
  refine ⟨?_, ?_, h1, h2⟩
  · rw [h.w, e, List.filter_cons_of_neg (by simp)]
  · rw [h.p, e, plsW, if_pos rfl]; simp
theorem PtI.word {s y : List UInt8} {j : Nat} {a : Int} {k : Nat} (h : PtI s j a k) (hy : (split 32 s)[j]? = some y) (hne : y ≠ []) : PtI s (j + 1) (a + (y.length : Int) + 1) (k + 1) ∧ (wds s)[k]? = some y ∧ nth (pls s) k = a := by
  obtain ⟨h1, h2⟩ := h.next hy
  obtain ⟨hj, hy'⟩ := List.getElem?_eq_some_iff.1 hy
  have e : (split 32 s).drop j = y :: (split 32 s).drop (j + 1) := by rw [List.drop_eq_getElem_cons hj, hy']
  have hw : (wds s).drop k = y :: ((split 32 s).drop (j + 1)).filter (fun w => decide (w ≠ [])) := by rw [h.w, e, List.filter_cons_of_pos (by simpa using hne)]
  have hp : (pls s).drop k = a :: plsW (a + (y.length : Int) + 1) ((split 32 s).drop (j + 1)) := by rw [h.p, e, plsW, if_neg hne]
  have hd : ∀ {α : Type} {l : List α} {x : α} {r : List α} {k : Nat}, l.drop k = x :: r → l[k]? = some x ∧ l.drop (k + 1) = r := fun {α l x r k} he => by
    constructor
    · have := congrArg (·[0]?) he; simpa using this
    · rw [← List.drop_drop, he]; rfl
  refine ⟨⟨(hd hw).2, (hd hp).2, h1, h2⟩, (hd hw).1, ?_⟩
  have := (hd hp).1
  unfold nth; simp [List.getD, this]
theorem PtI.done {s : List UInt8} {j : Nat} {a : Int} {k : Nat} (h : PtI s j a k) (hj : (split 32 s).length ≤ j) (hk : k ≤ (wds s).length) : k = (wds s).length := by
  have := h.w
  rw [List.drop_eq_nil_of_le hj] at this
  have h2 : (wds s).drop k = [] := this
  rw [List.drop_eq_nil_iff] at h2
  omega
theorem rel_word {s y : List UInt8} {x : Rdr} {k : Nat} {a : Int} (h : RelC x (chkN s k)) (hy : (wds s)[k]? = some y) (ha : nth (pls s) k = a) : RelC (rdW x a y) (chkN s (k + 1)) := by
  rw [chkN, wdn_get hy, ha]; exact h.step a y
def chkT (s : List UInt8) : Rul × List Prb × Int :=
  if 200 < s.length then (Rul.zero, [], 5) else if chkO s = [] then (chkR s, [], 0) else (Rul.zero, chkO s, 0)
end Go.Proofs.YthdmaamdlibjaaaDoor.M
namespace Go.Proofs.YthdmaamdlibjaaaDoor
open Go.RowKit
open Go.MapKept (IsKey sameNow_of_keys heap_set)
class KeyV (α : Type) [DecidableEq α] where
  kv : α → Value
  kd : TypeDesc
  is : ∀ a, IsKey kd (kv a)
  inj : ∀ a b, kv a = kv b → a = b
instance keyS : KeyV (List UInt8) := ⟨fun k => .string (sB k), .string, fun _ => trivial, fun a b h => by
  have h1 : sB a = sB b := by injection h
  have h2 := congrArg (fun x : ByteArray => x.data.toList) h1
  simpa [sB] using h2⟩
instance keyI : KeyV Int := ⟨fun k => .int .i64 k, .int .i64, fun _ => rfl, fun a b h => by injection h⟩
def zvOf (P : Program) (t : TypeId) : Option Value := match P.info? t with
  | some i => i.zero
  | none => none
structure MapF (P : Program) (t kt et : TypeId) (d : TypeDesc) : Prop where
  a : P.underlying t = some (.map kt et)
  b : P.underlying kt = some d
  z : zvOf P et = some (.int .i64 0)
def ents {α : Type} [DecidableEq α] [KeyV α] (g : List (α × Int)) : List (Value × Value) := g.map fun p => (KeyV.kv p.1, .int .i64 p.2)
def mapO {α : Type} [DecidableEq α] [KeyV α] (b : Nat) (g : List (α × Int)) : Own :=
  ⟨[b], fun w => ∃ es clock, w.heap[b]? = some (.map es clock) ∧ es.toList.map (fun e => (e.key, e.val)) = ents g, fun h k => by rw [h b (by simp)]; exact k⟩
@[reducible] def mapS (b : Nat) (g : List (List UInt8 × Int)) : Own := mapO b g
section
variable {α : Type} [DecidableEq α] [KeyV α]
theorem find_map (k : α) : ∀ (es : List MapEntry) (g : List (α × Int)) (i : Nat), es.map (fun e => (e.key, e.val)) = ents g →
    M.mget g k = none ∧ Instr.findNow (KeyV.kd α) (KeyV.kv k) es i = some none ∨ ∃ v j, M.mget g k = some v ∧ Instr.findNow (KeyV.kd α) (KeyV.kv k) es i = some (some (j, .int .i64 v))
  | [], [], _, _ => .inl ⟨rfl, rfl⟩
  | [], p :: g, _, h => by simp [ents] at h
  | e :: es, [], _, h => by simp [ents] at h
  | e :: es, p :: g, i, h => by
    simp only [ents, List.map_cons, List.cons.injEq, Prod.mk.injEq] at h
    obtain ⟨⟨h1, h2⟩, h3⟩ := h
    obtain ⟨r, hr, hiff⟩ := sameNow_of_keys (KeyV.is k) (by rw [h1]; exact KeyV.is p.1 : IsKey (KeyV.kd α) e.key)
    cases r with
    | true =>
      have e1 : p.1 = k := (KeyV.inj _ _ ((hiff.1 rfl).trans h1)).symm
      exact .inr ⟨p.2, i, by rw [M.mget, if_pos e1], by simp [Instr.findNow, hr, h2]⟩
    | false =>
      have e1 : ¬ p.1 = k := fun q => by have := hiff.2 (by rw [h1, q]); cases this
      rw [M.mget, if_neg e1]
      have e2 : Instr.findNow (KeyV.kd α) (KeyV.kv k) (e :: es) i = Instr.findNow (KeyV.kd α) (KeyV.kv k) es (i + 1) := by simp [Instr.findNow, hr]
      rw [e2]
      exact find_map k es g (i + 1) h3
omit [KeyV α] in
theorem mput_new {k : α} {v : Int} : ∀ {g : List (α × Int)}, M.mget g k = none → M.mput g k v = g ++ [(k, v)]
  | [], _ => rfl
  | p :: r, h => by
    rw [M.mget] at h
    by_cases e : p.1 = k
    · rw [if_pos e] at h; cases h
    · rw [if_neg e] at h
      rw [M.mput, if_neg e, mput_new h]; rfl
variable {P : Program} {n lo : Nat} {B : List Nat} {l : Fr} {os : List Own} {u : World} {dst : Option Tmp} {ty : TypeId} {pos : String} {af : Array Edge} {gd : Option (Nat × Bool)}
theorem run_zeroV {t : TypeId} {z : Value} (w : World) (h : zvOf P t = some z) : (zeroValue t).run P w = .ok z w := by
  unfold zvOf at h
  split at h
  · rename_i i hi
    simp [zeroValue, typeInfo, hi, h]
  · cases h
theorem run_look {t kt et : TypeId} {w : World} {b : Nat} {g : List (α × Int)} {k : α} (ht : MapF P t kt et (KeyV.kd α)) (h : (mapO b g).pr w) (ok : Bool) :
    (Instr.lookup t (.map (some b)) (KeyV.kv k) ok).run P w = .ok (if ok then .tuple #[.int .i64 (M.mval g k), .bool (M.mhas g k)] else .int .i64 (M.mval g k)) w := by
  obtain ⟨es, clock, hb, he⟩ := h
  have hc := Go.MapKept.run_checkKey (P := P) (w := w) ht.b (KeyV.is k) es.isEmpty 9999
  rcases find_map k es.toList g 0 he with ⟨h1, h2⟩ | ⟨v, j, h1, h2⟩
  · have hf := Go.MapKept.run_findKey (P := P) (w := w) ht.b h2
    unfold M.mval M.mhas
    rw [h1]
    simp [Instr.lookup, run_underlying ht.a, Go.MapKept.run_getObj_map hb, hc, hf, run_zeroV w ht.z, Result.andThen]
  · have hf := Go.MapKept.run_findKey (P := P) (w := w) ht.b h2
    unfold M.mval M.mhas
    rw [h1]
    simp [Instr.lookup, run_underlying ht.a, Go.MapKept.run_getObj_map hb, hc, hf, Result.andThen]
theorem q_look_ {x y : Operand} {t kt et : TypeId} {i b : Nat} {g : List (α × Int)} {k : α} {ok : Bool} (ht : MapF P t kt et (KeyV.kd α)) (hx : opd l x = some (.map (some b))) (hy : opd l y = some (KeyV.kv k)) (hi : os[i]? = some (mapO b g)) :
    OpQ P n lo B l os u ⟨dst, .lookup t x y ok, ty, pos, af, gd⟩ (if ok then .tuple #[.int .i64 (M.mval g k), .bool (M.mhas g k)] else .int .i64 (M.mval g k)) := fun a w ha hw => by
  have := run_look (k := k) ht (hw.prs _ (List.mem_of_getElem? hi)) ok
  simp [execOp, ha.eval hx, ha.eval hy, this]
theorem e_mapNew_ {t : TypeId} : OpE P n lo B l os u ⟨dst, .makeMap t none, ty, pos, af, gd⟩ true (fun v os' u' => ∃ b, v = .map (some b) ∧ os' = (mapO b ([] : List (α × Int))) :: os ∧ u = u') := fun a w ha hw K Q hk => by
  have hr : (execOp a.eval ⟨dst, .makeMap t none, ty, pos, af, gd⟩).run P w = .ok (.value (.map (some w.heap.size))) (w.alloc (.map #[] 0)) := by
    simp [execOp, Instr.makeMap]
  unfold Oper.wp
  rw [hr]
  refine hk _ _ u _ ⟨w.heap.size, rfl, rfl, rfl⟩ (Up.refl lo u) ?_ (fun _ => (Ext.refl w).alloc _)
  refine hw.new ((Ext.refl w).alloc _) (o := mapO w.heap.size ([] : List (α × Int))) (fun k hk => ?_) (by simp [mapO]) ⟨#[], 0, heap_alloc_new w _, rfl⟩
  simp only [mapO, List.mem_singleton] at hk
  subst hk
  simp
theorem e_mapUpd_ {x y z : Operand} {t kt et : TypeId} {i b : Nat} {g : List (α × Int)} {k : α} {v : Int} (ht : MapF P t kt et (KeyV.kd α)) (hx : opd l x = some (.map (some b))) (hy : opd l y = some (KeyV.kv k)) (hz : opd l z = some (.int .i64 v)) (hi : os[i]? = some (mapO b g)) (hn : M.mget g k = none) :
    OpE P n lo B l os u ⟨dst, .mapUpdate t x y z, ty, pos, af, gd⟩ false (fun _ os' u' => os' = os.set i (mapO b (M.mput g k v)) ∧ u = u') := fun a w ha hw K Q hk => by
  obtain ⟨es, clock, hb, he⟩ := hw.prs _ (List.mem_of_getElem? hi)
  have hc := Go.MapKept.run_checkKey (P := P) (w := w) ht.b (KeyV.is k) false 9999
  have hf : (Instr.findKey kt (KeyV.kv k) es.toList).run P w = .ok none w := by
    rcases find_map k es.toList g 0 he with ⟨h1, h2⟩ | ⟨v, j, h1, h2⟩
    · exact Go.MapKept.run_findKey ht.b h2
    · rw [hn] at h1; cases h1
  have hr : (execOp a.eval ⟨dst, .mapUpdate t x y z, ty, pos, af, gd⟩).run P w = .ok .skip { w with heap := w.heap.setIfInBounds b (.map (es.push { key := KeyV.kv k, val := .int .i64 v, born := clock }) (clock + 1)) } := by
    simp [execOp, ha.eval hx, ha.eval hy, ha.eval hz, Instr.mapUpdate, run_underlying ht.a, Go.MapKept.run_getObj_map hb, hc, hf, Go.MapKept.run_setObj_map _ hb, Result.andThen]
  unfold Oper.wp
  rw [hr]
  refine hk _ _ u _ ⟨rfl, rfl⟩ (Up.refl lo u) (hw.upd hi rfl rfl rfl (by simp) (fun k' _ hk' => (heap_set hb).2 k' (by simpa [mapO] using hk')) (fun k' hk' => .inl (by simpa [mapO] using hk')) (by simp [mapO]) ?_ (fun k' hk' _ => by simpa [mapO] using hk')) (fun h => by cases h)
  refine ⟨_, _, (heap_set hb).1, ?_⟩
  rw [mput_new hn, Array.toList_push, List.map_append, he]
  simp [ents]
end
section
variable {P : Program} {n lo : Nat} {B : List Nat} {l : Fr} {os : List Own} {u : World} {dst : Option Tmp} {ty : TypeId} {pos : String} {af : Array Edge} {gd : Option (Nat × Bool)}
theorem q_lookS {x y : Operand} {t kt et : TypeId} {i b : Nat} {g : List (List UInt8 × Int)} {k : List UInt8} (ht : MapF P t kt et .string) (hx : opd l x = some (.map (some b))) (hy : opd l y = some (.string (sB k))) (hi : os[i]? = some (mapS b g)) :
    OpQ P n lo B l os u ⟨dst, .lookup t x y true, ty, pos, af, gd⟩ (.tuple #[.int .i64 (M.mval g k), .bool (M.mhas g k)]) := q_look_ (k := k) (ok := true) ht hx hy hi
theorem e_mapNewS {t : TypeId} : OpE P n lo B l os u ⟨dst, .makeMap t none, ty, pos, af, gd⟩ true (fun v os' u' => ∃ b, v = .map (some b) ∧ os' = mapS b [] :: os ∧ u = u') := e_mapNew_
theorem e_mapUpdS {x y z : Operand} {t kt et : TypeId} {i b : Nat} {g : List (List UInt8 × Int)} {k : List UInt8} {v : Int} (ht : MapF P t kt et .string) (hx : opd l x = some (.map (some b))) (hy : opd l y = some (.string (sB k))) (hz : opd l z = some (.int .i64 v)) (hi : os[i]? = some (mapS b g)) (hn : M.mhas g k = false) :
    OpE P n lo B l os u ⟨dst, .mapUpdate t x y z, ty, pos, af, gd⟩ false (fun _ os' u' => os' = os.set i (mapS b (M.mput g k v)) ∧ u = u') := e_mapUpd_ (k := k) ht hx hy hz hi (by unfold M.mhas at hn; simpa using hn)
end
theorem num_set {r : M.Rul} {y : List UInt8} {v : Int} {rest : List Value} (h : M.isNum y = true) :
    setL (Value.int .i64 r.pits :: .int .i64 r.seeds :: .bool r.stores :: .bool r.skip :: .bool r.relay :: .bool r.feed :: .bool r.again :: .int .i64 r.capture :: .int .i64 r.slam :: rest) (0 + M.numIx y) [.int .i64 v]
      = Value.int .i64 (M.setNum r y v).pits :: .int .i64 (M.setNum r y v).seeds :: .bool (M.setNum r y v).stores :: .bool (M.setNum r y v).skip :: .bool (M.setNum r y v).relay :: .bool (M.setNum r y v).feed :: .bool (M.setNum r y v).again :: .int .i64 (M.setNum r y v).capture :: .int .i64 (M.setNum r y v).slam :: rest := by
  rcases M.isNum_iff h with rfl | rfl | rfl | rfl <;> rfl
theorem flg_set {r : M.Rul} {y : List UInt8} {rest : List Value} (h : M.isFlg y = true) :
    setL (Value.int .i64 r.pits :: .int .i64 r.seeds :: .bool r.stores :: .bool r.skip :: .bool r.relay :: .bool r.feed :: .bool r.again :: .int .i64 r.capture :: .int .i64 r.slam :: rest) (0 + M.flagIx y) [.bool true]
      = Value.int .i64 (M.setFlg r y).pits :: .int .i64 (M.setFlg r y).seeds :: .bool (M.setFlg r y).stores :: .bool (M.setFlg r y).skip :: .bool (M.setFlg r y).relay :: .bool (M.setFlg r y).feed :: .bool (M.setFlg r y).again :: .int .i64 (M.setFlg r y).capture :: .int .i64 (M.setFlg r y).slam :: rest := by
  rcases M.isFlg_iff5 h with rfl | rfl | rfl | rfl | rfl <;> rfl
theorem e_storeB {P : Program} {n lo : Nat} {B : List Nat} {l : Fr} {os : List Own} {u : World} {dst : Option Tmp} {ty : TypeId} {pos : String} {af : Array Edge} {gd : Option (Nat × Bool)} {x y : Operand} {t T : TypeId} {i b o : Nat} {c c' : List Value} {v : Value} (ht : tyOf P t = some (false, 1)) (hx : opd l x = some (.pointer (some ⟨b, o, none⟩))) (hi : os[i]? = some (boxO b c T)) (hy : opd l y = some v)
    (hv : cellsL v = [v]) (h1 : v.oneCell' = true) (hl : o + 1 ≤ c.length) (hc : setL c o [v] = c') :
    OpE P n lo B l os u ⟨dst, .store t x y, ty, pos, af, gd⟩ false (fun _ os' u' => os' = os.set i (boxO b c' T) ∧ u = u') :=
  e_store (vs := [v]) ht hx hi hy hv rfl (by simp [h1]) (by simpa [Nat.ble_eq] using hl) hc
theorem numIx_le (y : List UInt8) : M.numIx y ≤ 8 := by
  unfold M.numIx
  repeat' split
  all_goals decide
theorem flagIx_le {y : List UInt8} (h : M.isFlg y = true) : M.flagIx y ≤ 8 := by rcases M.isFlg_iff5 h with rfl | rfl | rfl | rfl | rfl <;> decide
theorem cellsOk_cons {w : World} {T : Ty} {Ts : List Ty} : ∀ {vs : List Value}, cellsOk w (T :: Ts) vs → ∃ x r, vs = x :: r ∧ T.ok w x ∧ cellsOk w Ts r
  | x :: r, h => ⟨x, r, rfl, h.1, h.2⟩
theorem cellsOk_nil {w : World} : ∀ {vs : List Value}, cellsOk w [] vs → vs = []
  | [], _ => rfl
theorem cellsOwn_cons {w : World} {T : Ty} {Ts : List Ty} {fp : List Nat} : ∀ {vs : List Value}, cellsOwn w (T :: Ts) vs fp → ∃ x r f1 f2, vs = x :: r ∧ fp = f1 ++ f2 ∧ T.own w x f1 ∧ cellsOwn w Ts r f2
  | x :: r, ⟨f1, f2, e, a, b⟩ => ⟨x, r, f1, f2, rfl, e, a, b⟩
theorem cellsOwn_nil {w : World} {fp : List Nat} : ∀ {vs : List Value}, cellsOwn w [] vs fp → vs = [] ∧ fp = []
  | [], h => ⟨rfl, h⟩
theorem drop_flat {α β : Type} (f : α → List β) (k : Nat) (hf : ∀ a, (f a).length = k) : ∀ (l : List α) (i : Nat) (a : α), l[i]? = some a → ((l.flatMap f).drop (i * k)).take k = f a
  | x :: l, 0, a, h => by
    simp at h; subst h
    simp [List.flatMap_cons, hf, List.take_append]
  | x :: l, i + 1, a, h => by
    simp at h
    rw [List.flatMap_cons, Nat.succ_mul, Nat.add_comm, ← List.drop_drop, List.drop_left' (hf x)]
    exact drop_flat f k hf l i a h
  | [], _, _, h => by simp at h
theorem flat_len {α β : Type} (f : α → List β) (k : Nat) (hf : ∀ a, (f a).length = k) : ∀ (l : List α), (l.flatMap f).length = l.length * k
  | [] => by simp
  | x :: l => by rw [List.flatMap_cons, List.length_append, hf, flat_len f k hf l, List.length_cons, Nat.succ_mul, Nat.add_comm]
instance ty_2 : TyI Tryd.prog 2 false 1 := ⟨by kernel_rfl⟩
instance ty_4 : TyI Tryd.prog 4 false 1 := ⟨by kernel_rfl⟩
instance ty_9 : TyI Tryd.prog 9 false 1 := ⟨by kernel_rfl⟩
instance ty_30 : TyI Tryd.prog 30 true 9 := ⟨by kernel_rfl⟩
instance ty_35 : TyI Tryd.prog 35 true 3 := ⟨by kernel_rfl⟩
instance ty_41 : TyI Tryd.prog 41 false 1 := ⟨by kernel_rfl⟩
instance ty_74 : TyI Tryd.prog 74 false 1 := ⟨by kernel_rfl⟩
instance ty_76 : TyI Tryd.prog 76 true 11 := ⟨by kernel_rfl⟩
instance fld_30_0 : FldI Tryd.prog 30 0 0 2 false 1 := ⟨by kernel_rfl⟩
instance fld_30_1 : FldI Tryd.prog 30 1 1 2 false 1 := ⟨by kernel_rfl⟩
instance fld_30_2 : FldI Tryd.prog 30 2 2 4 false 1 := ⟨by kernel_rfl⟩
instance fld_30_3 : FldI Tryd.prog 30 3 3 4 false 1 := ⟨by kernel_rfl⟩
instance fld_30_4 : FldI Tryd.prog 30 4 4 4 false 1 := ⟨by kernel_rfl⟩
instance fld_30_5 : FldI Tryd.prog 30 5 5 4 false 1 := ⟨by kernel_rfl⟩
instance fld_30_6 : FldI Tryd.prog 30 6 6 4 false 1 := ⟨by kernel_rfl⟩
instance fld_30_7 : FldI Tryd.prog 30 7 7 2 false 1 := ⟨by kernel_rfl⟩
instance fld_30_8 : FldI Tryd.prog 30 8 8 2 false 1 := ⟨by kernel_rfl⟩
instance fld_35_0 : FldI Tryd.prog 35 0 0 2 false 1 := ⟨by kernel_rfl⟩
instance fld_35_1 : FldI Tryd.prog 35 1 1 2 false 1 := ⟨by kernel_rfl⟩
instance fld_35_2 : FldI Tryd.prog 35 2 2 9 false 1 := ⟨by kernel_rfl⟩
instance fld_76_0 : FldI Tryd.prog 76 0 0 30 true 9 := ⟨by kernel_rfl⟩
instance fld_76_1 : FldI Tryd.prog 76 1 9 41 false 1 := ⟨by kernel_rfl⟩
instance fld_76_2 : FldI Tryd.prog 76 2 10 74 false 1 := ⟨by kernel_rfl⟩
instance eI_22 : ElI Tryd.prog 22 5 1 1 [.int .u8 0] := ⟨by kernel_rfl⟩
theorem el_22 : elOf Tryd.prog 22 = some (5, 1, 1, [.int .u8 0]) := ElI.h
instance eI_38 : ElI Tryd.prog 38 9 1 16 [.string ByteArray.empty] := ⟨by kernel_rfl⟩
theorem el_38 : elOf Tryd.prog 38 = some (9, 1, 16, [.string ByteArray.empty]) := ElI.h
instance eI_41 : ElI Tryd.prog 41 35 3 32 [.int .i64 0, .int .i64 0, .string ByteArray.empty] := ⟨by kernel_rfl⟩
theorem el_41 : elOf Tryd.prog 41 = some (35, 3, 32, [.int .i64 0, .int .i64 0, .string ByteArray.empty]) := ElI.h
instance eI_65 : ElI Tryd.prog 65 2 1 8 [.int .i64 0] := ⟨by kernel_rfl⟩
theorem el_65 : elOf Tryd.prog 65 = some (2, 1, 8, [.int .i64 0]) := ElI.h
instance eI_95 : ElI Tryd.prog 95 4 1 1 [.bool false] := ⟨by kernel_rfl⟩
theorem el_95 : elOf Tryd.prog 95 = some (4, 1, 1, [.bool false]) := ElI.h
instance zero_30 : ZeroI Tryd.prog 30 [.int .i64 0, .int .i64 0, .bool false, .bool false, .bool false, .bool false, .bool false, .int .i64 0, .int .i64 0] := ⟨by kernel_rfl⟩
instance zero_35 : ZeroI Tryd.prog 35 [.int .i64 0, .int .i64 0, .string ByteArray.empty] := ⟨by kernel_rfl⟩
instance zero_76 : ZeroI Tryd.prog 76 [.int .i64 0, .int .i64 0, .bool false, .bool false, .bool false, .bool false, .bool false, .int .i64 0, .int .i64 0, .slice none 0 0, .map none] := ⟨by kernel_rfl⟩
instance flds_30 : FldsI Tryd.prog 30 [(0, 1), (1, 1), (2, 1), (3, 1), (4, 1), (5, 1), (6, 1), (7, 1), (8, 1)] := ⟨by kernel_rfl⟩
instance flds_35 : FldsI Tryd.prog 35 [(0, 1), (1, 1), (2, 1)] := ⟨by kernel_rfl⟩
instance flds_76 : FldsI Tryd.prog 76 [(0, 9), (9, 1), (10, 1)] := ⟨by kernel_rfl⟩
instance fn_8 : FnI Tryd.prog 8 := ⟨by kernel_rfl⟩
instance fn_9 : FnI Tryd.prog 9 := ⟨by kernel_rfl⟩
instance fn_19 : FnI Tryd.prog 19 := ⟨by kernel_rfl⟩
instance fn_22 : FnI Tryd.prog 22 := ⟨by kernel_rfl⟩
instance fn_23 : FnI Tryd.prog 23 := ⟨by kernel_rfl⟩
instance fn_24 : FnI Tryd.prog 24 := ⟨by kernel_rfl⟩
instance fn_25 : FnI Tryd.prog 25 := ⟨by kernel_rfl⟩
instance fn_26 : FnI Tryd.prog 26 := ⟨by kernel_rfl⟩
instance fn_27 : FnI Tryd.prog 27 := ⟨by kernel_rfl⟩
instance fn_40 : FnI Tryd.prog 40 := ⟨by kernel_rfl⟩
instance fn_41 : FnI Tryd.prog 41 := ⟨by kernel_rfl⟩
instance fn_47 : FnI Tryd.prog 47 := ⟨by kernel_rfl⟩
instance fn_50 : FnI Tryd.prog 50 := ⟨by kernel_rfl⟩
instance fn_51 : FnI Tryd.prog 51 := ⟨by kernel_rfl⟩
instance fn_52 : FnI Tryd.prog 52 := ⟨by kernel_rfl⟩
instance fn_53 : FnI Tryd.prog 53 := ⟨by kernel_rfl⟩
instance fn_54 : FnI Tryd.prog 54 := ⟨by kernel_rfl⟩
instance fn_55 : FnI Tryd.prog 55 := ⟨by kernel_rfl⟩
instance fn_56 : FnI Tryd.prog 56 := ⟨by kernel_rfl⟩
instance fn_57 : FnI Tryd.prog 57 := ⟨by kernel_rfl⟩
instance fn_58 : FnI Tryd.prog 58 := ⟨by kernel_rfl⟩
instance fn_59 : FnI Tryd.prog 59 := ⟨by kernel_rfl⟩
instance fn_61 : FnI Tryd.prog 61 := ⟨by kernel_rfl⟩
instance fn_67 : FnI Tryd.prog 67 := ⟨by kernel_rfl⟩
instance fn_69 : FnI Tryd.prog 69 := ⟨by kernel_rfl⟩
instance fn_70 : FnI Tryd.prog 70 := ⟨by kernel_rfl⟩
instance fn_71 : FnI Tryd.prog 71 := ⟨by kernel_rfl⟩
instance fn_72 : FnI Tryd.prog 72 := ⟨by kernel_rfl⟩
instance fn_73 : FnI Tryd.prog 73 := ⟨by kernel_rfl⟩
instance fn_74 : FnI Tryd.prog 74 := ⟨by kernel_rfl⟩
instance fn_75 : FnI Tryd.prog 75 := ⟨by kernel_rfl⟩
instance fn_78 : FnI Tryd.prog 78 := ⟨by kernel_rfl⟩
instance fn_79 : FnI Tryd.prog 79 := ⟨by kernel_rfl⟩
instance fn_81 : FnI Tryd.prog 81 := ⟨by kernel_rfl⟩
instance fn_82 : FnI Tryd.prog 82 := ⟨by kernel_rfl⟩
instance fn_83 : FnI Tryd.prog 83 := ⟨by kernel_rfl⟩
instance fn_88 : FnI Tryd.prog 88 := ⟨by kernel_rfl⟩
instance uI_4 : UndI Tryd.prog 4 (.bool) := ⟨@Tryd.underlying4⟩
theorem und_4 : Tryd.prog.underlying 4 = some (.bool) := UndI.h
instance uI_9 : UndI Tryd.prog 9 (.string) := ⟨@Tryd.underlying9⟩
theorem und_9 : Tryd.prog.underlying 9 = some (.string) := UndI.h
instance uI_10 : UndI Tryd.prog 10 (.string) := ⟨@Tryd.underlying10⟩
instance uI_11 : UndI Tryd.prog 11 (.string) := ⟨@Tryd.underlying11⟩
instance uI_22 : UndI Tryd.prog 22 (.slice 5) := ⟨@Tryd.underlying22⟩
theorem und_22 : Tryd.prog.underlying 22 = some (.slice 5) := UndI.h
instance uI_38 : UndI Tryd.prog 38 (.slice 9) := ⟨@Tryd.underlying38⟩
theorem und_38 : Tryd.prog.underlying 38 = some (.slice 9) := UndI.h
instance uI_41 : UndI Tryd.prog 41 (.slice 35) := ⟨@Tryd.underlying41⟩
theorem und_41 : Tryd.prog.underlying 41 = some (.slice 35) := UndI.h
instance uI_65 : UndI Tryd.prog 65 (.slice 2) := ⟨@Tryd.underlying65⟩
theorem und_65 : Tryd.prog.underlying 65 = some (.slice 2) := UndI.h
instance uI_95 : UndI Tryd.prog 95 (.slice 4) := ⟨@Tryd.underlying95⟩
theorem map_74 : MapF Tryd.prog 74 9 2 (.string) := ⟨@Tryd.underlying74, @Tryd.underlying9, by kernel_rfl⟩
instance mixI : MixI Tryd.prog := ⟨by kernel_rfl⟩
@[reducible] def cRules (x : M.Rul) : List Ty := [Ty.int x.pits, Ty.int x.seeds, Ty.bool x.stores, Ty.bool x.skip, Ty.bool x.relay, Ty.bool x.feed, Ty.bool x.again, Ty.int x.capture, Ty.int x.slam]
def lRules (xs : List M.Rul) : List Ty := xs.flatMap cRules
theorem lRules_length (xs : List M.Rul) : (lRules xs).length = xs.length * 9 := flat_len cRules 9 (fun _ => rfl) xs
instance : LenL lRules 9 := ⟨lRules_length⟩
@[reducible] def cProblem (x : M.Prb) : List Ty := [Ty.int x.kind, Ty.int x.at1, Ty.str x.word]
def lProblem (xs : List M.Prb) : List Ty := xs.flatMap cProblem
theorem lProblem_length (xs : List M.Prb) : (lProblem xs).length = xs.length * 3 := flat_len cProblem 3 (fun _ => rfl) xs
instance : LenL lProblem 3 := ⟨lProblem_length⟩
theorem elem_Problem {u : World} {e c i : Nat} {A : Option Addr} {xs : List M.Prb} {x : M.Prb} (h : (Ty.sl e 3 xs.length (lProblem xs)).ok u (.slice A xs.length c)) (hi : xs[i]? = some x) : ∃ b o, elemA 3 (.slice A xs.length c) i = some ⟨b, o, none⟩ ∧ RowAt u b o [.int .i64 x.kind, .int .i64 x.at1, .string (sB x.word)] := by
  obtain ⟨b, o, vs, he, h, hr⟩ := sl_elem h (List.getElem?_eq_some_iff.1 hi).1 rfl
  have e := drop_flat cProblem 3 (fun _ => rfl) xs i x hi
  unfold lProblem at h
  rw [e] at h
  obtain ⟨x0, r, rfl, h0, h⟩ := cellsOk_cons h
  obtain ⟨x1, r, rfl, h1, h⟩ := cellsOk_cons h
  obtain ⟨x2, r, rfl, h2, h⟩ := cellsOk_cons h
  obtain rfl := cellsOk_nil h
  obtain rfl : x0 = .int .i64 x.kind := h0
  obtain rfl : x1 = .int .i64 x.at1 := h1
  obtain rfl : x2 = .string (sB x.word) := h2
  exact ⟨b, o, he, hr⟩
@[reducible] def vcProblem (x : M.Prb) : List Value := [.int .i64 x.kind, .int .i64 x.at1, .string (sB x.word)]
instance flt_Problem : FltL lProblem vcProblem 3 := flt_mk cProblem vcProblem 3 (fun w x => ⟨[], [], rfl, ⟨rfl, rfl⟩, ⟨[], [], rfl, ⟨rfl, rfl⟩, ⟨[], [], rfl, ⟨rfl, rfl⟩, rfl⟩⟩⟩) (fun w x vs f h => by
    obtain ⟨x0, r0, g0, q0, rfl, rfl, ⟨rfl, rfl⟩, h0⟩ := cellsOwn_cons h
    obtain ⟨x1, r1, g1, q1, rfl, rfl, ⟨rfl, rfl⟩, h1⟩ := cellsOwn_cons h0
    obtain ⟨x2, r2, g2, q2, rfl, rfl, ⟨rfl, rfl⟩, h2⟩ := cellsOwn_cons h1
    obtain ⟨rfl, rfl⟩ := cellsOwn_nil h2
    exact ⟨rfl, rfl⟩) (fun w x vs h => by
    obtain ⟨x0, r, rfl, h0, h⟩ := cellsOk_cons h
    obtain ⟨x1, r, rfl, h1, h⟩ := cellsOk_cons h
    obtain ⟨x2, r, rfl, h2, h⟩ := cellsOk_cons h
    obtain rfl := cellsOk_nil h
    obtain rfl : x0 = .int .i64 x.kind := h0
    obtain rfl : x1 = .int .i64 x.at1 := h1
    obtain rfl : x2 = .string (sB x.word) := h2
    rfl) (fun _ => rfl) (fun _ => rfl) (fun _ => rfl) (by decide)
@[reducible] def cbool (x : Bool) : List Ty := [Ty.bool x]
def lbool (xs : List Bool) : List Ty := xs.flatMap cbool
theorem lbool_length (xs : List Bool) : (lbool xs).length = xs.length * 1 := flat_len cbool 1 (fun _ => rfl) xs
instance : LenL lbool 1 := ⟨lbool_length⟩
@[reducible] def vcbool (x : Bool) : List Value := [.bool x]
instance flt_bool : FltL lbool vcbool 1 := flt_mk cbool vcbool 1 (fun w x => ⟨[], [], rfl, ⟨rfl, rfl⟩, rfl⟩) (fun w x vs f h => by
    obtain ⟨x0, r0, g0, q0, rfl, rfl, ⟨rfl, rfl⟩, h0⟩ := cellsOwn_cons h
    obtain ⟨rfl, rfl⟩ := cellsOwn_nil h0
    exact ⟨rfl, rfl⟩) (fun w x vs h => by
    obtain ⟨x0, r, rfl, h0, h⟩ := cellsOk_cons h
    obtain rfl := cellsOk_nil h
    obtain rfl : x0 = .bool x := h0
    rfl) (fun _ => rfl) (fun _ => rfl) (fun _ => rfl) (by decide)
open Go.RowKit Go.ChangeShapes Go.WideShapes Go.ChangeAt
section
variable {H : Type} {enc : TypeId × Value → H} {w : World} {spare : Nat → Bool} {held : Bool} {fuel : Nat} {x : DataW H × List MemPlace} {cs : List Value}
end
section
variable {H : Type} {enc : TypeId × Value → H} {w : World} {spare : Nat → Bool} {held : Bool} {fuel : Nat} {x : DataW H × List MemPlace} {cs : List Value}
end
section
variable {H : Type} {enc : TypeId × Value → H} {w : World} {spare : Nat → Bool} {held : Bool} {fuel : Nat} {x : DataW H × List MemPlace} {cs : List Value}
end
def addO : Value → Nat → Value
  | .pointer (some ⟨b, o, none⟩), k => .pointer (some ⟨b, o + k, none⟩)
  | v, _ => v
instance {n : Int} : LenB (M.capName n) 9 := ⟨M.capName_len n⟩
instance {n : Int} : LenB (M.slamName n) 7 := ⟨M.slamName_len n⟩
instance {r : M.Rul} : LenB (M.rulesT r) 155 := ⟨M.rulesT_len r⟩
instance {a b c : Int} : LenB (M.recLine a b c) 66 := ⟨M.recLine_len a b c⟩
theorem q_toStr1 {P : Program} {n lo : Nat} {B : List Nat} {l : Fr} {os : List Own} {u : World} {dst : Option Tmp} {ty : TypeId} {pos : String} {af : Array Edge} {gd : Option (Nat × Bool)} {x : Operand} {src dt e e' : TypeId} {i m c : Nat} {A : Option Addr} {a : Int} {b : UInt8} {g : List Nat} (hs : P.underlying src = some (.slice e)) (he : P.underlying e = some (.int .u8)) (hd : P.underlying dt = some .string)
    (hx : opd l x = some (.slice A m c)) (hi : os[i]? = some (rowO e' 1 (.slice A m c) m [.int .u8 a] g)) (hb : (b.toNat : Int) = a) : OpQ P n lo B l os u ⟨dst, .convert src dt x, ty, pos, af, gd⟩ (.string (sB [b])) :=
  q_toStr (xs := [b]) hs he hd hx (by rw [hi, ← hb]; rfl)
def ownsRowS (w : World) (e : TypeId) (v : Value) (n : Nat) (xs : List Value) : Prop :=
  xs.length = n ∧ ∃ g cap cur fz, v = .slice (some ⟨g, 0, none⟩) n cap ∧ w.heap[g]? = some (.cells cur e fz) ∧ (fz.2 = 0 ∨ cap ≤ fz.1) ∧ n ≤ cap ∧ cap ≤ maxLen ∧ cur.size = cap ∧ cur.toList.take n = xs
theorem ownsRowS.cell {w : World} {e : TypeId} {g n cap : Nat} {xs : List Value} (h : ownsRowS w e (.slice (some ⟨g, 0, none⟩) n cap) n xs) (j : Nat) (u : Value) (hu : xs[j]? = some u) : w.cell? ⟨g, j, none⟩ = some u := by
  obtain ⟨_, g', cap', cur, fz, hv, hg, _, _, _, _, ht⟩ := h
  injection hv with hv _ _
  injection hv with hv
  injection hv with hv _ _
  subst hv
  rw [← ht, List.getElem?_take] at hu
  split at hu
  · simp [World.cell?, hg]; simpa using hu
  · cases hu
section
variable {P : Program}
variable {n lo : Nat} {B : List Nat} {l : Fr} {os : List Own} {u : World} {dst : Option Tmp} {ty : TypeId} {pos : String} {af : Array Edge} {gd : Option (Nat × Bool)}
end
section
variable {P : Program} {n : Nat} {l : Fr} {dst : Option Tmp} {ty : TypeId} {pos : String} {af : Array Edge} {gd : Option (Nat × Bool)}
theorem run_equalIn_pn (d : Nat) {t e : TypeId} (hu : P.underlying t = some (.pointer e)) (p : Option Addr) (w : World) : (Op.equalIn (d + 1) t (.pointer p) (.pointer none)).run P w = .ok p.isNone w := by
  cases p <;> simp [Op.equalIn, run_underlying hu]
theorem p_eqlP {x y : Operand} {t t' e : TypeId} {p : Option Addr} (hu : P.underlying t = some (.pointer e)) (h1 : opd l x = some (.pointer p)) (h2 : opd l y = some (.pointer none)) : OpP P n l ⟨dst, .binOp .eql t x y t', ty, pos, af, gd⟩ (.bool p.isNone) := fun a w ha => by
  simp [execOp, eqGuard, binOp, ha.eval h1, ha.eval h2, Op.equal, Op.maxDepth, run_equalIn_pn 9999 hu]
theorem p_eqlP0 {x y : Operand} {t t' e : TypeId} (hu : P.underlying t = some (.pointer e)) (h1 : opd l x = some (.pointer none)) (h2 : opd l y = some (.pointer none)) : OpP P n l ⟨dst, .binOp .eql t x y t', ty, pos, af, gd⟩ (.bool true) := p_eqlP hu h1 h2
theorem p_eqlP1 {x y : Operand} {t t' e : TypeId} {p : Addr} (hu : P.underlying t = some (.pointer e)) (h1 : opd l x = some (.pointer (some p))) (h2 : opd l y = some (.pointer none)) : OpP P n l ⟨dst, .binOp .eql t x y t', ty, pos, af, gd⟩ (.bool false) := p_eqlP hu h1 h2
end
section
variable {P : Program} {n lo : Nat} {B : List Nat} {l : Fr} {os : List Own} {u : World} {dst : Option Tmp} {ty : TypeId} {pos : String} {af : Array Edge} {gd : Option (Nat × Bool)} {x y z : Operand} {t : TypeId} {a : List UInt8} {i j : Nat} {k k' : IntKind}
theorem sB_size (a : List UInt8) : (sB a).size = a.length := by simp [sB, ByteArray.size]
theorem sB_extract (a : List UInt8) (i j : Nat) : (sB a).extract i j = sB ((a.drop i).take (j - i)) := ByteArray.extract_mk a i j
theorem p_takeS (hu : P.underlying t = some .string) (hx : opd l x = some (.string (sB a))) (hy : opd l y = some (.int k i)) (h : i ≤ a.length) : OpP P n l ⟨dst, .slice t x none (some y) none, ty, pos, af, gd⟩ (.string (sB (a.take i))) := fun c w ha => by
  have := run_slice_string_h (P := P) w t (sB a) hu k i (by omega) (by rw [sB_size]; omega)
  rw [sB_extract] at this
  simp only [Int.toNat_natCast, Nat.sub_zero, List.drop_zero] at this
  simp only [execOp, Option.map_none, Option.map_some, ha.eval hx, ha.eval hy, Sem.run_bind, run_sliceAt_string _ t _ _ _ _ hu, this, Result.andThen_ok, Sem.run_pure]
theorem p_dropS (hu : P.underlying t = some .string) (hx : opd l x = some (.string (sB a))) (hy : opd l y = some (.int k i)) (h : i ≤ a.length) : OpP P n l ⟨dst, .slice t x (some y) none none, ty, pos, af, gd⟩ (.string (sB (a.drop i))) := fun c w ha => by
  have := run_slice_string_l (P := P) w t (sB a) hu k i (by omega) (by rw [sB_size]; omega)
  rw [sB_extract, sB_size] at this
  simp only [Int.toNat_natCast] at this
  rw [List.take_of_length_le (by simp)] at this
  simp only [execOp, Option.map_none, Option.map_some, ha.eval hx, ha.eval hy, Sem.run_bind, run_sliceAt_string _ t _ _ _ _ hu, this, Result.andThen_ok, Sem.run_pure]
theorem p_midS (hu : P.underlying t = some .string) (hx : opd l x = some (.string (sB a))) (hy : opd l y = some (.int k i)) (hz : opd l z = some (.int k' j)) (h1 : i ≤ j) (h2 : j ≤ a.length) : OpP P n l ⟨dst, .slice t x (some y) (some z) none, ty, pos, af, gd⟩ (.string (sB ((a.drop i).take (j - i)))) := fun c w ha => by
  have := run_slice_string (P := P) w t (sB a) k k' i j hu (by omega) (by omega) (by rw [sB_size]; omega)
  rw [sB_extract] at this
  simp only [Int.toNat_natCast] at this
  simp only [execOp, Option.map_none, Option.map_some, ha.eval hx, ha.eval hy, ha.eval hz, Sem.run_bind, run_sliceAt_string _ t _ _ _ _ hu, this, Result.andThen_ok, Sem.run_pure]
theorem p_byteS (hu : P.underlying t = some .string) (hx : opd l x = some (.string (sB a))) (hy : opd l y = some (.int k i)) (h : i < a.length) : OpP P n l ⟨dst, .index t x y, ty, pos, af, gd⟩ (.int .u8 (M.bat a i)) := fun c w ha => by
  have := run_index_string (P := P) w t (sB a) k i hu
  rw [dif_pos ⟨by omega, by rw [sB_size]; omega⟩] at this
  have e : ((sB a)[(i : Int).toNat]'(by rw [sB_size]; omega)) = a[i] := rfl
  have e2 : M.bat a i = (a[i].toNat : Int) := by simp [M.bat, List.getD, h]
  simp only [execOp, ha.eval hx, ha.eval hy, Sem.run_bind, this, Result.andThen_ok, Sem.run_pure]
  rw [e2]; rfl
end
instance {a : List UInt8} {k i : Nat} [h : LenB a k] : LenB (a.take i) k := ⟨by rw [List.length_take]; have := h.h; omega⟩
instance {a : List UInt8} {k i : Nat} [h : LenB a k] : LenB (a.drop i) k := ⟨by rw [List.length_drop]; have := h.h; omega⟩
end Go.Proofs.YthdmaamdlibjaaaDoor
namespace Go.Proofs.YthdmaamdlibjaaaDoor.M
theorem named_0 {l : List (List UInt8)} {t : List UInt8} (h : (namedBy l t).2 = 0) : ¬ idx l t < 0 ∧ (namedBy l t).1 = idx l t := by
  unfold namedBy at h ⊢
  by_cases h1 : idx l t < 0
  · rw [if_pos h1] at h; exact absurd (show (3 : Int) = 0 from h) (by decide)
  · rw [if_neg h1]; exact ⟨h1, rfl⟩
theorem named_3 {l : List (List UInt8)} {t : List UInt8} (h : ¬ (namedBy l t).2 = 0) : idx l t < 0 := by
  unfold namedBy at h
  by_cases h1 : idx l t < 0
  · exact h1
  · rw [if_neg h1] at h; exact absurd rfl h
theorem valP_c0 {y t : List UInt8} (hy : y = captT) (h : (namedBy capNames t).2 = 0) : valP y t = ((namedBy capNames t).1, 0) := by
  subst hy; obtain ⟨a, b⟩ := named_0 h; rw [valP_capt, if_neg a, b]
theorem valP_c3 {y t : List UInt8} (hy : y = captT) (h : ¬ (namedBy capNames t).2 = 0) : valP y t = (0, 4) := by
  subst hy; rw [valP_capt, if_pos (named_3 h)]
theorem valP_s0 {y t : List UInt8} (hy : y = slamT) (h : (namedBy slamNames t).2 = 0) : valP y t = ((namedBy slamNames t).1, 0) := by
  subst hy; obtain ⟨a, b⟩ := named_0 h; rw [valP_slam, if_neg a, b]
theorem valP_s3 {y t : List UInt8} (hy : y = slamT) (h : ¬ (namedBy slamNames t).2 = 0) : valP y t = (0, 4) := by
  subst hy; rw [valP_slam, if_pos (named_3 h)]
theorem valP_n3 {y t : List UInt8} (h1 : ¬ y = captT) (h2 : ¬ y = slamT) (h3 : (num t).2 = false) : valP y t = (0, 3) := by
  unfold valP; rw [if_neg h1, if_neg h2, if_pos h3]
theorem valP_n4 {y t : List UInt8} (h1 : ¬ y = captT) (h2 : ¬ y = slamT) (h3 : (num t).2 = true) (h4 : y = pitsT ∧ betw (num t).1 2 8 = false ∨ y = seedsT ∧ betw (num t).1 1 6 = false) : valP y t = (0, 4) := by
  unfold valP; rw [if_neg h1, if_neg h2, if_neg (by rw [h3]; decide), if_pos h4]
theorem valP_n0 {y t : List UInt8} (h1 : ¬ y = captT) (h2 : ¬ y = slamT) (h3 : (num t).2 = true) (h4 : ¬ (y = pitsT ∧ betw (num t).1 2 8 = false ∨ y = seedsT ∧ betw (num t).1 1 6 = false)) : valP y t = ((num t).1, 0) := by
  unfold valP; rw [if_neg h1, if_neg h2, if_neg (by rw [h3]; decide), if_neg h4]
theorem valR_y {r : Rul} {y t : List UInt8} {n : Int} (h : valP y t = (n, 0)) : valR r y t = setNum r y n := by unfold valR; rw [h, if_pos rfl]
theorem valR_n {r : Rul} {y t : List UInt8} {n k : Int} (h : valP y t = (n, k)) (hk : k ≠ 0) : valR r y t = r := by unfold valR; rw [h, if_neg hk]
section
variable {x : Rdr} {a : Int} {w : List UInt8}
theorem rdW_1 (h : (cutS w [61]).2.2 = true ∧ isNum (cutS w [61]).1 = false ∨ (cutS w [61]).2.2 = false ∧ isFlg (cutS w [61]).1 = false) : rdW x a w = ⟨x.rules, x.problems ++ [⟨1, a, w⟩], x.given⟩ := by
  unfold rdW rdU; rw [if_pos h]
theorem rdW_2 (h1 : ¬ ((cutS w [61]).2.2 = true ∧ isNum (cutS w [61]).1 = false)) (h2 : ¬ ((cutS w [61]).2.2 = false ∧ isFlg (cutS w [61]).1 = false)) (hm : mhas x.given (cutS w [61]).1 = true) : rdW x a w = ⟨x.rules, x.problems ++ [⟨2, a, w⟩], x.given⟩ := by
  unfold rdW rdU; rw [if_neg (fun h => h.elim h1 h2), if_pos hm]
theorem rdW_n {k : Int} (he : (cutS w [61]).2.2 = true) (hn : isNum (cutS w [61]).1 = true) (hm : mhas x.given (cutS w [61]).1 = false) (hk : (valP (cutS w [61]).1 (cutS w [61]).2.1).2 = k) (h0 : ¬ k = 0) : rdW x a w = ⟨valR x.rules (cutS w [61]).1 (cutS w [61]).2.1, x.problems ++ [⟨k, a, w⟩], mput x.given (cutS w [61]).1 a⟩ := by
  subst hk; unfold rdW rdU; rw [if_neg (by rw [he, hn]; simp), if_neg (by rw [hm]; decide), if_pos he, if_neg h0]
theorem rdW_z (he : (cutS w [61]).2.2 = true) (hn : isNum (cutS w [61]).1 = true) (hm : mhas x.given (cutS w [61]).1 = false) (h0 : (valP (cutS w [61]).1 (cutS w [61]).2.1).2 = 0) : rdW x a w = ⟨valR x.rules (cutS w [61]).1 (cutS w [61]).2.1, x.problems, mput x.given (cutS w [61]).1 a⟩ := by
  unfold rdW rdU; rw [if_neg (by rw [he, hn]; simp), if_neg (by rw [hm]; decide), if_pos he, if_pos h0]
theorem rdW_f (he : (cutS w [61]).2.2 = false) (hf : isFlg (cutS w [61]).1 = true) (hm : mhas x.given (cutS w [61]).1 = false) : rdW x a w = ⟨setFlg x.rules (cutS w [61]).1, x.problems, mput x.given (cutS w [61]).1 a⟩ := by
  unfold rdW rdU; rw [if_neg (by rw [he, hf]; simp), if_neg (by rw [hm]; decide), if_neg (by rw [he]; decide)]
end
theorem misN_t {g : List (List UInt8 × Int)} {m : Int} {k : Nat} {y : List UInt8} {ps qs : List Prb} (h : qs = ps ++ misN g m k) (hY : pNames[k]? = some y) (hb : mhas g y = true) : qs = ps ++ misN g m (k + 1) := by
  rw [misN, wdn_get hY, if_pos hb, List.append_nil]; exact h
theorem misN_f {g : List (List UInt8 × Int)} {m : Int} {k : Nat} {y : List UInt8} {ps qs : List Prb} (h : qs = ps ++ misN g m k) (hY : pNames[k]? = some y) (hb : mhas g y = false) : qs ++ [⟨5, m, y⟩] = ps ++ misN g m (k + 1) := by
  rw [misN, wdn_get hY, if_neg (by rw [hb]; decide), h, List.append_assoc]
theorem mis_t {g : List (List UInt8 × Int)} {m : Int} {k : Nat} {ps qs : List Prb} (h : qs = ps ++ misN g m k) (hk : k = 2) (h1 : mhas g agaiT = true) (h2 : mhas g storT = false) : ps ++ mis g m = qs ++ [⟨6, mval g agaiT, agaiT⟩] := by
  subst hk; unfold mis misE; rw [if_pos ⟨h1, h2⟩, h, List.append_assoc]
theorem mis_f {g : List (List UInt8 × Int)} {m : Int} {k : Nat} {ps qs : List Prb} (h : qs = ps ++ misN g m k) (hk : k = 2) (h1 : ¬ (mhas g agaiT = true ∧ mhas g storT = false)) : ps ++ mis g m = qs := by
  subst hk; unfold mis misE; rw [if_neg h1, List.append_nil, h]
theorem mis_len (g : List (List UInt8 × Int)) (m : Int) : (mis g m).length ≤ 3 := by
  have := misN_len g m 2
  unfold mis misE
  rw [List.length_append]
  split <;> simp only [List.length_cons, List.length_nil] <;> omega
theorem PtI.word' {s y : List UInt8} {j : Nat} {a : Int} {k : Nat} (h : PtI s j a k) (hy : (split 32 s)[j]? = some y) (hne : y ≠ []) : PtI s (j + 1) (a + ((y.length : Int) + 1)) (k + 1) ∧ (wds s)[k]? = some y ∧ nth (pls s) k = a := by
  rw [← Int.add_assoc]; exact h.word hy hne
theorem PtI.blank' {s y : List UInt8} {j : Nat} {a : Int} {k : Nat} (h : PtI s j a k) (hy : (split 32 s)[j]? = some y) (he : y = []) : PtI s (j + 1) (a + ((y.length : Int) + 1)) k := by
  subst he; rw [← Int.add_assoc]; exact h.blank hy
theorem rel_done {s : List UInt8} {x : Rdr} {j k : Nat} {a : Int} (h : RelC x (chkN s k)) (hP : PtI s j a k) (hj : (split 32 s).length ≤ j) (hk : k ≤ (wds s).length) : RelC x (chkA s) := by
  have := hP.done hj hk; subst this; exact h
theorem chkT_5 {s : List UInt8} (h : 200 < s.length) : chkT s = (Rul.zero, [], 5) := by unfold chkT; rw [if_pos h]
theorem chkT_p {s : List UInt8} {x : Rdr} (h : ¬ 200 < s.length) (hR : RelC x (chkA s)) (hp : 0 < (x.problems ++ mis x.given (s.length : Int)).length) : chkT s = (Rul.zero, x.problems ++ mis x.given (s.length : Int), 0) := by
  rw [hR.missing] at hp ⊢
  unfold chkT; rw [if_neg h, if_neg (by intro e; rw [e] at hp; simp at hp)]
theorem chkT_n {s : List UInt8} {x : Rdr} (h : ¬ 200 < s.length) (hR : RelC x (chkA s)) (hp : ¬ 0 < (x.problems ++ mis x.given (s.length : Int)).length) : chkT s = (x.rules, x.problems ++ mis x.given (s.length : Int), 0) := by
  rw [hR.missing] at hp ⊢
  have e : chkO s = [] := List.length_eq_zero_iff.1 (by omega)
  unfold chkT; rw [if_neg h, if_pos e, e, hR.r]; rfl
theorem chkT_O {s : List UInt8} (h : ¬ 200 < s.length) (hp : 0 < (chkO s).length) : chkT s = (Rul.zero, chkO s, 0) := by
  unfold chkT; rw [if_neg h, if_neg (by intro e; rw [e] at hp; simp at hp)]
theorem chkT_R {s : List UInt8} (h : ¬ 200 < s.length) (hp : ¬ 0 < (chkO s).length) : chkT s = (chkR s, [], 0) := by
  unfold chkT; rw [if_neg h, if_pos (List.length_eq_zero_iff.1 (by omega))]
theorem chkT_len (s : List UInt8) : (chkT s).2.1.length ≤ s.length + 4 := by
  have := chkO_len s
  unfold chkT
  split
  · show ([] : List Prb).length ≤ _; simp
  · split
    · show ([] : List Prb).length ≤ _; simp
    · exact this
theorem RelC.plen {x : Rdr} {s : List UInt8} {k : Nat} (h : RelC x (chkN s k)) : x.problems.length ≤ k := by rw [h.p]; exact (chkN_len s k).2.2
end Go.Proofs.YthdmaamdlibjaaaDoor.M
namespace Go.Proofs.YthdmaamdlibjaaaDoor
open Go.RowKit
section
variable {P : Program} {n lo : Nat} {B : List Nat} {Q : Exit → Act → World → Prop} {cs : List Code} {l : Fr} {os os' : List Own} {u : World}
theorem giveL (ks : List Nat) {w w₀ : World} {bs : List Own} {fr : List Own} {m : Nat} (hb : Bw w₀ bs) (x : Up w₀.heap.size (offW w₀ (bs.flatMap (·.fp))) u) (hp : PP os ks os') (hf : NL (os'.take m) fr)
    (hw : St w₀.heap.size (bs.flatMap (·.fp)) u w os) : St w₀.heap.size (bs.flatMap (·.fp)) u w (fr ++ [anyO ((os'.drop m).flatMap (·.fp))]) := by
  have hpm := hp.perm
  have e : os' = fr ++ os'.drop m := by rw [← hf.eq, List.take_append_drop]
  exact hw.conv (fun o ho => by
    rcases List.mem_append.1 ho with ho | ho
    · exact hw.prs o (hpm.mem_iff.2 (by rw [e]; exact List.mem_append_left _ ho))
    · simp at ho; subst ho; trivial) (by
    have := hpm.symm.flatMap_right (fun o : Own => o.fp)
    rw [e, List.flatMap_append] at this
    rw [List.flatMap_append]
    simpa [anyO] using this)
theorem zrbE (ks : List Nat) {fn : Func} {R : Value → List Own → Prop} {w₀ : World} {bs : List Own} {fr : List Own} {m : Nat} (hb : Bw w₀ bs) (x : Up w₀.heap.size (offW w₀ (bs.flatMap (·.fp))) u) (h : R (.tuple #[]) fr)
    (hr : fn.results = #[] := by rfl) (hm : ks.length = m := by rfl) (hp : PP os ks os' := by exact pp_) (hf : NL (os'.take m) fr := by exact nl) :
    Js P n w₀.heap.size (bs.flatMap (·.fp)) (bodyPost P fn (RB w₀ bs R)) [] l os u := Js.end_ fun a w ha hw =>
  ⟨ha.dfr, .tuple #[], by unfold results; rw [hr]; simp, _, fr, _, rfl, h, (giveL ks hb x hp hf hw).giveBack hb x⟩
end
section
variable {P : Program} {n lo : Nat} {B : List Nat} {Q : Exit → Act → World → Prop} {cs : List Code} {K : Act → World → Prop} {ops : Array Oper} {rest : List Oper} {l : Fr} {os os' os1 : List Own} {u : World} {ty : TypeId} {pos : String} {af : Array Edge} {gd : Option (Nat × Bool)} {dst : Option Tmp} {v : Value} {d : Nat}
end
theorem txs_get' {xs : List (List UInt8)} {k : Nat} {y : List UInt8} (h : xs[k]? = some y) : (txs_ xs)[0 + k * 1]? = some (.string (sB y)) := by rw [Nat.zero_add, Nat.mul_one]; simp [txs_, h]
end Go.Proofs.YthdmaamdlibjaaaDoor
namespace Go.Proofs.YthdmaamdlibjaaaDoor.M
theorem prb_set {l : List Prb} {k : Nat} {y : Prb} (h : k < l.length) : prb (l.set k y) k = y := by simp [prb, List.getD, h]
theorem prb_ext {a b : Prb} (h1 : a.kind = b.kind) (h2 : a.at1 = b.at1) (h3 : a.word = b.word) : a = b := by cases a; cases b; simp_all
def fP (k : Int) (_ : Prb) : Prb := ⟨k, k + 1, markT (k + 2)⟩
def sP (_ : Prb) : Int := 3
def hP (k : Int) (x : Prb) : Int := if x.kind ≠ k then -1 else if x.at1 ≠ k + 1 then -1 else if x.word ≠ markT (k + 2) then -1 else k + 3
theorem szs_P : ∀ l : List Prb, szs sP l = 3 * (l.length : Int)
  | [] => rfl
  | x :: l => by rw [szs, szs_P l, List.length_cons, sP]; omega
theorem hP_fP (k : Int) (x : Prb) (_ : 0 ≤ k) : hP k (fP k x) = k + sP x := by simp [hP, fP, sP]
theorem hP_1 {k : Int} {x : Prb} (h : x.kind ≠ k) : hP k x = -1 := by unfold hP; rw [if_pos h]
theorem hP_2 {k : Int} {x : Prb} (h : x.kind = k) (h2 : x.at1 ≠ k + 1) : hP k x = -1 := by unfold hP; rw [if_neg (by simpa using h), if_pos h2]
theorem hP_3 {k : Int} {x : Prb} (h : x.kind = k) (h2 : x.at1 = k + 1) (h3 : x.word ≠ markT (k + 2)) : hP k x = -1 := by unfold hP; rw [if_neg (by simpa using h), if_neg (by simpa using h2), if_pos h3]
theorem hP_0 {k : Int} {x : Prb} (h : x.kind = k) (h2 : x.at1 = k + 1) (h3 : x.word = markT (k + 2)) : hP k x = k + 3 := by unfold hP; rw [if_neg (by simpa using h), if_neg (by simpa using h2), if_neg (by simpa using h3)]
theorem held_P (l : List Prb) {k : Int} (h : 0 ≤ k) : heldL hP k (mkL fP sP k l) = k + 3 * (l.length : Int) := by
  rw [heldL_mk fP sP hP hP_fP (fun _ => by simp [sP]) l k h, szs_P]
end Go.Proofs.YthdmaamdlibjaaaDoor.M

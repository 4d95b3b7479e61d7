/- Plain mathematics of searches. -/
import Derived.Test.YtmgnckfhghibeaaGreatZyA1
import Derived.Test.YtmgnckfhghibeaaGreatZyA2
import Derived.Test.YtmgnckfhghibeaaGreatProg
import Derived.ProofKit
import Derived.SizedLaws
set_option linter.unusedSimpArgs false
set_option linter.unusedVariables false
namespace Go.Proofs.YtmgnckfhghibeaaGreat.M
structure Opt where
  move : Int
  value : Int
  deriving DecidableEq
structure Puz where
  rules : Rul
  position : Pos
  depth : Int
  move : Int
  value : Int
  margin : Int
  deriving DecidableEq
def Opt.zero : Opt := ⟨0, 0⟩
def Puz.zero : Puz := ⟨Rul.zero, Pos.zero, 0, 0, 0, 0⟩
theorem puz_ext {a b : Puz} (h1 : a.rules = b.rules) (h2 : a.position = b.position) (h3 : a.depth = b.depth) (h4 : a.move = b.move) (h5 : a.value = b.value) (h6 : a.margin = b.margin) : a = b := by cases a; cases b; simp_all
def endV (r : Rul) (p : Pos) : Int := side r p.pits p.player - side r p.pits (1 - p.player)
def moveV (x : Res) (v : Int) : Int := if x.again = true then x.gain + v else x.gain - v
theorem moveV_y {x : Res} {v : Int} (h : x.again = true) : moveV x v = x.gain + v := by unfold moveV; rw [if_pos h]
theorem moveV_n {x : Res} {v : Int} (h : x.again = false) : moveV x v = x.gain - v := by unfold moveV; rw [if_neg (by simp [h])]
def bestF (fst : Bool) (b : Int) : List Int → Int
  | [] => b
  | v :: l => bestF false (if fst = true ∨ b < v then v else b) l
def best (l : List Int) : Int := bestF true 0 l
theorem bestF_bd {B : Int} : ∀ (l : List Int) (fst : Bool) (b : Int), -B ≤ b → b ≤ B → (∀ v ∈ l, -B ≤ v ∧ v ≤ B) → -B ≤ bestF fst b l ∧ bestF fst b l ≤ B
  | [], _, _, h1, h2, _ => ⟨h1, h2⟩
  | v :: l, fst, b, h1, h2, h => by
    have hv := h v (by simp)
    rw [bestF]
    refine bestF_bd l false _ ?_ ?_ (fun x hx => h x (by simp [hx]))
    · split <;> omega
    · split <;> omega
theorem results_fact {r : Rul} {p : Pos} {x : Res} (h : x ∈ results r p) : ∃ move : Int, (make r p move).2 = 0 ∧ x = (make r p move).1 := by
  obtain ⟨m, _, h2, h3⟩ := resultsTo_mem.1 h
  exact ⟨_, h2, h3⟩
theorem results_get0 {r : Rul} {p : Pos} {x : Res} {k : Nat} (h : (results r p)[k]? = some x) : x ∈ results r p := List.mem_of_getElem? h
theorem results_ok {r : Rul} {p : Pos} {x : Res} (h : x ∈ results r p) : okP r x.next = true := by
  obtain ⟨m, h2, rfl⟩ := results_fact h
  exact (make_ok h2).2.2.2.1
theorem make_gain {r : Rul} {p : Pos} {move : Int} (h : (make r p move).2 = 0) : -96 ≤ (make r p move).1.gain ∧ (make r p move).1.gain ≤ 96 := by
  have h1 := make_code (r := r) (p := p) (move := move)
  rw [h] at h1
  obtain ⟨hok, _, _, hG⟩ := done_good h1.symm
  rw [make_yes h1.symm]
  have a1 := hG.store p.player
  have a2 := (Good.of_ok hok).store p.player
  show -96 ≤ getI _ _ - getI _ _ ∧ getI _ _ - getI _ _ ≤ 96
  omega
theorem results_gain {r : Rul} {p : Pos} {x : Res} (h : x ∈ results r p) : -96 ≤ x.gain ∧ x.gain ≤ 96 := by
  obtain ⟨m, h2, rfl⟩ := results_fact h
  exact make_gain h2
theorem results_8 {r : Rul} {p : Pos} (h : okP r p = true) : (results r p).length ≤ 8 := by
  have h1 := resultsTo_len (r := r) (p := p) r.pits.toNat
  have h2 := okP_bd h
  unfold results; omega
def val (r : Rul) : Nat → Pos → Int
  | 0, p => if (results r p).length = 0 then endV r p else 0
  | d + 1, p => if (results r p).length = 0 then endV r p else best ((results r p).map fun x => moveV x (val r d x.next))
theorem val_end {r : Rul} {d : Nat} {p : Pos} (h : (results r p).length = 0) : val r d p = endV r p := by
  cases d <;> rw [val, if_pos h]
theorem val_0 {r : Rul} {p : Pos} (h : (results r p).length ≠ 0) : val r 0 p = 0 := by rw [val, if_neg h]
theorem val_s {r : Rul} {d : Nat} {p : Pos} (h : (results r p).length ≠ 0) : val r (d + 1) p = best ((results r p).map fun x => moveV x (val r d x.next)) := by rw [val, if_neg h]
theorem endV_bd {r : Rul} {p : Pos} (h : okP r p = true) : -768 ≤ endV r p ∧ endV r p ≤ 768 := by
  obtain ⟨g1, g2, g3, g4, g5, g6, g7⟩ := okP_bd h
  have a := side_bd g5 g2 p.player
  have b := side_bd g5 g2 (1 - p.player)
  unfold endV; omega
theorem moveV_bd {x : Res} {v B : Int} (h1 : -96 ≤ x.gain ∧ x.gain ≤ 96) (h2 : -B ≤ v ∧ v ≤ B) : -(B + 96) ≤ moveV x v ∧ moveV x v ≤ B + 96 := by
  unfold moveV; split <;> omega
theorem val_bd {r : Rul} : ∀ (d : Nat) (p : Pos), okP r p = true → -(768 + 96 * (d : Int)) ≤ val r d p ∧ val r d p ≤ 768 + 96 * (d : Int)
  | 0, p, h => by
    have := endV_bd h
    rw [val]; split <;> omega
  | d + 1, p, h => by
    have := endV_bd h
    rw [val]; split
    · omega
    refine bestF_bd _ _ _ (by omega) (by omega) (fun v hv => ?_)
    obtain ⟨x, hx, rfl⟩ := List.mem_map.1 hv
    have h1 := val_bd d x.next (results_ok hx)
    have h2 := moveV_bd (results_gain hx) h1
    omega
def vals (r : Rul) (d : Nat) (p : Pos) : List Int := (results r p).map fun x => moveV x (val r d x.next)
theorem vals_len (r : Rul) (d : Nat) (p : Pos) : (vals r d p).length = (results r p).length := by simp [vals]
theorem vals_get {r : Rul} {d : Nat} {p : Pos} {k : Nat} {y : Res} (h : (results r p)[k]? = some y) : (vals r d p)[k]? = some (moveV y (val r d y.next)) := by unfold vals; rw [List.getElem?_map, h]; rfl
theorem val_d {r : Rul} {depth : Int} {p : Pos} (h : (results r p).length ≠ 0) (hd : 1 ≤ depth) : val r depth.toNat p = best (vals r (depth - 1).toNat p) := by
  rw [show depth.toNat = (depth - 1).toNat + 1 by omega, val_s h]; rfl
theorem drop_some {α : Type} {l : List α} {k : Nat} {y : α} (h : l[k]? = some y) : l.drop k = y :: l.drop (k + 1) := by
  obtain ⟨hk, rfl⟩ := List.getElem?_eq_some_iff.1 h
  exact List.drop_eq_getElem_cons hk
theorem bestF_y {l : List Int} {k : Nat} {v b X : Int} (h : bestF (decide (k = 0)) b (l.drop k) = X) (hv : l[k]? = some v) (hc : k = 0 ∨ b < v) : bestF (decide (k + 1 = 0)) v (l.drop (k + 1)) = X := by
  rw [drop_some hv, bestF, if_pos (by simpa using hc)] at h
  simpa using h
theorem bestF_n {l : List Int} {k : Nat} {v b X : Int} (h : bestF (decide (k = 0)) b (l.drop k) = X) (hv : l[k]? = some v) (hc : ¬ (k = 0 ∨ b < v)) : bestF (decide (k + 1 = 0)) b (l.drop (k + 1)) = X := by
  rw [drop_some hv, bestF, if_neg (by simpa using hc)] at h
  simpa using h
theorem bestF_e {l : List Int} {k : Nat} {c : Bool} {b X : Int} (h : bestF c b (l.drop k) = X) (hk : l.length ≤ k) : X = b := by
  rw [List.drop_eq_nil_of_le hk] at h; exact h.symm
def size (r : Rul) : Nat → Pos → Int
  | 0, _ => 1
  | d + 1, p => 1 + isum ((results r p).map fun x => size r d x.next)
def szgo (f : Pos → Int) : Int → List Res → Int
  | s, [] => s
  | s, x :: l => if 3000 < s + f x.next then s + f x.next else szgo f (s + f x.next) l
def sizeT (r : Rul) : Nat → Pos → Int
  | 0, _ => 1
  | d + 1, p => szgo (sizeT r d) 1 (results r p)
theorem size_pos (r : Rul) : ∀ (d : Nat) (p : Pos), 1 ≤ size r d p
  | 0, _ => by rw [size]; omega
  | d + 1, p => by
    rw [size]
    have := nn_isum (l := (results r p).map fun x => size r d x.next) (fun v hv => by
      obtain ⟨x, _, rfl⟩ := List.mem_map.1 hv
      have := size_pos r d x.next; omega)
    omega
theorem szgo_bd {f : Pos → Int} {B : Int} (h : ∀ p, 1 ≤ f p ∧ f p ≤ B) : ∀ (l : List Res) (s : Int), 1 ≤ s → s ≤ 3000 → 1 ≤ szgo f s l ∧ szgo f s l ≤ 3000 + B
  | [], s, h1, h2 => by have := h Pos.zero; rw [szgo]; omega
  | x :: l, s, h1, h2 => by
    have h3 := h x.next
    rw [szgo]; split
    · omega
    · exact szgo_bd h l _ (by omega) (by omega)
theorem sizeT_bd (r : Rul) : ∀ (d : Nat) (p : Pos), 1 ≤ sizeT r d p ∧ sizeT r d p ≤ 3001 * (d + 1 : Nat)
  | 0, _ => by rw [sizeT]; omega
  | d + 1, p => by
    rw [sizeT]
    have := szgo_bd (sizeT_bd r d) (results r p) 1 (by omega) (by omega)
    omega
theorem szgo_eq {f g : Pos → Int} (hg : ∀ p, 1 ≤ g p) (h : ∀ p, (f p ≤ 3000 → f p = g p) ∧ (3000 < f p → 3000 < g p)) : ∀ (l : List Res) (s : Int), 0 ≤ s → s ≤ 3000 →
    (szgo f s l ≤ 3000 → szgo f s l = s + isum (l.map fun x => g x.next)) ∧ (3000 < szgo f s l → 3000 < s + isum (l.map fun x => g x.next))
  | [], s, h0, h1 => by simp only [szgo, List.map_nil]; rw [isum_nil]; omega
  | x :: l, s, h0, h1 => by
    have h2 := h x.next
    have h3 := hg x.next
    have h4 : 0 ≤ isum (l.map fun x => g x.next) := nn_isum (fun v hv => by
      obtain ⟨y, _, rfl⟩ := List.mem_map.1 hv
      have := hg y.next; omega)
    rw [szgo, List.map_cons, isum_cons]
    split
    · rename_i hb
      refine ⟨fun h => by omega, fun _ => ?_⟩
      by_cases h5 : f x.next ≤ 3000
      · rw [h2.1 h5] at hb; omega
      · have := h2.2 (by omega); omega
    · rename_i hb
      have h5 : f x.next ≤ 3000 := by
        by_cases h5 : f x.next ≤ 3000
        · exact h5
        · have := h2.2 (by omega)
          omega
      have h6 := h2.1 h5
      rw [h6] at hb ⊢
      have := szgo_eq hg h l (s + g x.next) (by omega) (by omega)
      rw [Int.add_assoc] at this
      exact this
theorem sizeT_eq (r : Rul) : ∀ (d : Nat) (p : Pos), (sizeT r d p ≤ 3000 → sizeT r d p = size r d p) ∧ (3000 < sizeT r d p → 3000 < size r d p)
  | 0, p => by rw [sizeT, size]; exact ⟨fun _ => rfl, fun h => h⟩
  | d + 1, p => by
    rw [sizeT, size]
    exact szgo_eq (size_pos r d) (sizeT_eq r d) _ 1 (by omega) (by omega)
theorem sizeT_big (r : Rul) (d : Nat) (p : Pos) : 3000 < sizeT r d p ↔ 3000 < size r d p := by
  have h := sizeT_eq r d p
  constructor
  · exact h.2
  · intro h2
    by_cases h3 : sizeT r d p ≤ 3000
    · rw [← h.1 h3] at h2; omega
    · omega
theorem isum_mem {l : List Int} {v : Int} (h : nn l) (hv : v ∈ l) : v ≤ isum l := by
  obtain ⟨k, hk, rfl⟩ := List.getElem_of_mem hv
  rw [← nth_eq hk]; exact nth_le_isum h k
theorem size_sub {r : Rul} {d : Nat} {p : Pos} {x : Res} (h : x ∈ results r p) : size r d x.next ≤ size r (d + 1) p := by
  have := isum_mem (l := (results r p).map fun x => size r d x.next) (v := size r d x.next) (fun v hv => by
      obtain ⟨x, _, rfl⟩ := List.mem_map.1 hv
      have := size_pos r d x.next; omega) (List.mem_map.2 ⟨x, h, rfl⟩)
  rw [size]; omega
theorem szgo_y {f : Pos → Int} {s X : Int} {l : List Res} {k : Nat} {y : Res} (h : szgo f s (l.drop k) = X) (hy : l[k]? = some y) (hc : 3000 < s + f y.next) : X = s + f y.next := by
  rw [drop_some hy, szgo, if_pos hc] at h; exact h.symm
theorem szgo_n {f : Pos → Int} {s X : Int} {l : List Res} {k : Nat} {y : Res} (h : szgo f s (l.drop k) = X) (hy : l[k]? = some y) (hc : ¬ 3000 < s + f y.next) : szgo f (s + f y.next) (l.drop (k + 1)) = X := by
  rw [drop_some hy, szgo, if_neg hc] at h; exact h
theorem szgo_e {f : Pos → Int} {s X : Int} {l : List Res} {k : Nat} (h : szgo f s (l.drop k) = X) (hk : l.length ≤ k) : X = s := by
  rw [List.drop_eq_nil_of_le hk] at h; exact h.symm
theorem sizeT_d {r : Rul} {depth : Int} {p : Pos} (hd : 1 ≤ depth) : sizeT r depth.toNat p = szgo (sizeT r (depth - 1).toNat) 1 (results r p) := by
  rw [show depth.toNat = (depth - 1).toNat + 1 by omega, sizeT]
def svL (f : Pos → Int → Int × Int) : Bool → Int → Int → List Res → Int × Int
  | _, b, s, [] => (b, s)
  | fst, b, s, x :: l => svL f false (if fst = true ∨ b < moveV x (f x.next s).1 then moveV x (f x.next s).1 else b) (f x.next s).2 l
def sv (r : Rul) : Nat → Pos → Int → Int × Int
  | 0, p, s => if 3000 < s + 1 then (0, s + 1) else if (results r p).length = 0 then (endV r p, s + 1) else (0, s + 1)
  | d + 1, p, s => if 3000 < s + 1 then (0, s + 1) else if (results r p).length = 0 then (endV r p, s + 1) else svL (sv r d) true 0 (s + 1) (results r p)
theorem sv_big {r : Rul} {d : Nat} {p : Pos} {s : Int} (h : 3000 < s + 1) : sv r d p s = (0, s + 1) := by cases d <;> rw [sv, if_pos h]
theorem sv_end {r : Rul} {d : Nat} {p : Pos} {s : Int} (h : ¬ 3000 < s + 1) (h2 : (results r p).length = 0) : sv r d p s = (endV r p, s + 1) := by cases d <;> rw [sv, if_neg h, if_pos h2]
theorem sv_0 {r : Rul} {p : Pos} {s : Int} (h : ¬ 3000 < s + 1) (h2 : (results r p).length ≠ 0) : sv r 0 p s = (0, s + 1) := by rw [sv, if_neg h, if_neg h2]
theorem sv_s {r : Rul} {d : Nat} {p : Pos} {s : Int} (h : ¬ 3000 < s + 1) (h2 : (results r p).length ≠ 0) : sv r (d + 1) p s = svL (sv r d) true 0 (s + 1) (results r p) := by rw [sv, if_neg h, if_neg h2]
theorem svL_bd {f : Pos → Int → Int × Int} {B : Int} (hf : ∀ p s, (3000 ≤ s → (f p s).2 = s + 1) ∧ (s < 3000 → s ≤ (f p s).2 ∧ (f p s).2 ≤ B)) (hB : 3001 ≤ B) : ∀ (l : List Res) (fst : Bool) (b s : Int), s ≤ B →
    s ≤ (svL f fst b s l).2 ∧ (svL f fst b s l).2 ≤ B + l.length
  | [], _, _, s, h => by rw [svL]; simp; omega
  | x :: l, fst, b, s, h => by
    rw [svL]
    have h1 := hf x.next s
    by_cases h3 : 3000 ≤ s
    · have h4 := h1.1 h3
      rw [h4]
      have h5 := svL_hi hf hB l false (if fst = true ∨ b < moveV x (f x.next s).1 then moveV x (f x.next s).1 else b) (s + 1) (by omega)
      rw [h5, List.length_cons]; omega
    · have h4 := h1.2 (by omega)
      have h5 := svL_bd hf hB l false (if fst = true ∨ b < moveV x (f x.next s).1 then moveV x (f x.next s).1 else b) _ h4.2
      rw [List.length_cons]; omega
where
  svL_hi {f : Pos → Int → Int × Int} {B : Int} (hf : ∀ p s, (3000 ≤ s → (f p s).2 = s + 1) ∧ (s < 3000 → s ≤ (f p s).2 ∧ (f p s).2 ≤ B)) (hB : 3001 ≤ B) : ∀ (l : List Res) (fst : Bool) (b s : Int), 3000 ≤ s → (svL f fst b s l).2 = s + l.length
  | [], _, _, s, h => by rw [svL]; simp
  | x :: l, fst, b, s, h => by
    rw [svL, (hf x.next s).1 h, svL_hi hf hB l _ _ _ (by omega), List.length_cons]; omega
theorem sv_bd {r : Rul} : ∀ (d : Nat) (p : Pos) (s : Int), (∀ q, (results r q).length ≤ 8) → (3000 ≤ s → (sv r d p s).2 = s + 1) ∧ (s < 3000 → s ≤ (sv r d p s).2 ∧ (sv r d p s).2 ≤ 3001 + 8 * (d : Int))
  | 0, p, s, h8 => by
    rw [sv]; split
    · simp; omega
    split <;> (simp; omega)
  | d + 1, p, s, h8 => by
    rw [sv]; split
    · simp; omega
    split
    · simp; omega
    · rename_i h1 _
      have := svL_bd (B := 3001 + 8 * (d : Int)) (f := sv r d) (fun q t => sv_bd d q t h8) (by omega) (results r p) true 0 (s + 1) (by omega)
      have h3 := h8 p
      omega
theorem svL_val {f : Pos → Int → Int × Int} {g v : Pos → Int} (hg : ∀ p, 1 ≤ g p) (hf : ∀ p s, 0 ≤ s → s + g p ≤ 3000 → f p s = (v p, s + g p)) : ∀ (l : List Res) (fst : Bool) (b s : Int), 0 ≤ s →
    s + isum (l.map fun x => g x.next) ≤ 3000 → svL f fst b s l = (bestF fst b (l.map fun x => moveV x (v x.next)), s + isum (l.map fun x => g x.next))
  | [], _, _, s, _, _ => by simp [svL, bestF]
  | x :: l, fst, b, s, h0, h => by
    rw [List.map_cons, isum_cons] at h
    have h1 := hg x.next
    have h4 : 0 ≤ isum (l.map fun x => g x.next) := nn_isum (fun v hv => by
      obtain ⟨y, _, rfl⟩ := List.mem_map.1 hv
      have := hg y.next; omega)
    rw [svL, hf x.next s h0 (by omega), svL_val hg hf l _ _ _ (by omega) (by omega), List.map_cons, List.map_cons, isum_cons, bestF, Int.add_assoc]
theorem sv_val {r : Rul} : ∀ (d : Nat) (p : Pos) (s : Int), 0 ≤ s → s + size r d p ≤ 3000 → sv r d p s = (val r d p, s + size r d p)
  | 0, p, s, h0, h => by
    rw [size] at h ⊢
    rw [sv, if_neg (by omega), val]; split <;> rfl
  | d + 1, p, s, h0, h => by
    have h1 := size_pos r (d + 1) p
    by_cases h2 : (results r p).length = 0
    · rw [sv_end (by omega) h2, val_end h2, size]
      rw [List.eq_nil_of_length_eq_zero h2]; simp
    · rw [sv_s (by omega) h2, val_s h2, size] at *
      rw [svL_val (size_pos r d) (fun q t => sv_val d q t) _ _ _ _ (by omega) (by omega), best, Int.add_assoc]
theorem svL_grow {f : Pos → Int → Int × Int} {g : Pos → Int} (hm : ∀ p s, s ≤ (f p s).2) (hg : ∀ p s, 0 ≤ s → 3000 < s + g p → 3000 < (f p s).2) (he : ∀ p s, 0 ≤ s → s + g p ≤ 3000 → (f p s).2 = s + g p) : ∀ (l : List Res) (fst : Bool) (b s : Int), 0 ≤ s →
    s ≤ (svL f fst b s l).2 ∧ (3000 < s + isum (l.map fun x => g x.next) → 3000 < (svL f fst b s l).2)
  | [], _, _, s, _ => by simp [svL]
  | x :: l, fst, b, s, h0 => by
    have h1 := hm x.next s
    have h2 := svL_grow hm hg he l false (if fst = true ∨ b < moveV x (f x.next s).1 then moveV x (f x.next s).1 else b) (f x.next s).2 (by omega)
    rw [svL, List.map_cons, isum_cons]
    refine ⟨by omega, fun h3 => ?_⟩
    by_cases h4 : 3000 < s + g x.next
    · have := hg x.next s h0 h4; omega
    · rw [he x.next s h0 (by omega)] at h2 ⊢
      exact h2.2 (by omega)
theorem sv_grow {r : Rul} (h8 : ∀ q, (results r q).length ≤ 8) : ∀ (d : Nat) (p : Pos) (s : Int), 0 ≤ s → 3000 < s + size r d p → 3000 < (sv r d p s).2
  | 0, p, s, h0, h => by
    rw [size] at h
    rw [sv_big (by omega)]; simp; omega
  | d + 1, p, s, h0, h => by
    by_cases h1 : 3000 < s + 1
    · rw [sv_big h1]; simp; omega
    by_cases h2 : (results r p).length = 0
    · exfalso
      rw [size, List.eq_nil_of_length_eq_zero h2] at h; simp at h; omega
    rw [sv_s h1 h2]
    rw [size] at h
    refine (svL_grow (g := size r d) (fun q t => ?_) (fun q t => sv_grow h8 d q t) (fun q t ha hb => by rw [sv_val d q t ha hb]) (results r p) true 0 (s + 1) (by omega)).2 (by omega)
    have := sv_bd d q t h8
    by_cases h9 : 3000 ≤ t
    · have := this.1 h9; omega
    · have := this.2 (by omega); omega
theorem svL_vbd {f : Pos → Int → Int × Int} {B : Int} {l0 : List Res} (hf : ∀ x ∈ l0, ∀ s, -B ≤ (f x.next s).1 ∧ (f x.next s).1 ≤ B) (hg : ∀ x ∈ l0, -96 ≤ x.gain ∧ x.gain ≤ 96) : ∀ (l : List Res) (fst : Bool) (b s : Int), (∀ x ∈ l, x ∈ l0) → -(B + 96) ≤ b → b ≤ B + 96 →
    -(B + 96) ≤ (svL f fst b s l).1 ∧ (svL f fst b s l).1 ≤ B + 96
  | [], _, b, s, _, h1, h2 => by rw [svL]; exact ⟨h1, h2⟩
  | x :: l, fst, b, s, hl, h1, h2 => by
    have h3 := moveV_bd (hg x (hl x (by simp))) (hf x (hl x (by simp)) s)
    rw [svL]
    refine svL_vbd hf hg l _ _ _ (fun y hy => hl y (by simp [hy])) ?_ ?_
    · split <;> omega
    · split <;> omega
theorem sv_vbd {r : Rul} : ∀ (d : Nat) (p : Pos) (s : Int), okP r p = true → -(768 + 96 * (d : Int)) ≤ (sv r d p s).1 ∧ (sv r d p s).1 ≤ 768 + 96 * (d : Int)
  | 0, p, s, h => by
    have := endV_bd h
    rw [sv]; split
    · simp
    split <;> (simp; try omega)
  | d + 1, p, s, h => by
    have := endV_bd h
    rw [sv]; split
    · simp; omega
    split
    · simp; omega
    · have := svL_vbd (f := sv r d) (B := 768 + 96 * (d : Int)) (l0 := results r p) (fun x hx t => sv_vbd d x.next t (results_ok hx)) (fun x hx => results_gain hx) (results r p) true 0 (s + 1) (fun _ h => h) (by omega) (by omega)
      omega
theorem results_8R {r : Rul} (h : okR r = true) : ∀ q : Pos, (results r q).length ≤ 8 := fun q => by
  have h1 := resultsTo_len (r := r) (p := q) r.pits.toNat
  have h2 := okR_bd h
  unfold results; omega
theorem svL_y {f : Pos → Int → Int × Int} {b z : Int} {X : Int × Int} {l : List Res} {k : Nat} {y : Res} (h : svL f (decide (k = 0)) b z (l.drop k) = X) (hy : l[k]? = some y) (hc : k = 0 ∨ b < moveV y (f y.next z).1) : svL f (decide (k + 1 = 0)) (moveV y (f y.next z).1) (f y.next z).2 (l.drop (k + 1)) = X := by
  rw [drop_some hy, svL, if_pos (by simpa using hc)] at h
  simpa using h
theorem svL_n {f : Pos → Int → Int × Int} {b z : Int} {X : Int × Int} {l : List Res} {k : Nat} {y : Res} (h : svL f (decide (k = 0)) b z (l.drop k) = X) (hy : l[k]? = some y) (hc : ¬ (k = 0 ∨ b < moveV y (f y.next z).1)) : svL f (decide (k + 1 = 0)) b (f y.next z).2 (l.drop (k + 1)) = X := by
  rw [drop_some hy, svL, if_neg (by simpa using hc)] at h
  simpa using h
theorem svL_e {f : Pos → Int → Int × Int} {c : Bool} {b z : Int} {X : Int × Int} {l : List Res} {k : Nat} (h : svL f c b z (l.drop k) = X) (hk : l.length ≤ k) : X = (b, z) := by
  rw [List.drop_eq_nil_of_le hk] at h; exact h.symm
theorem sv_d {r : Rul} {depth : Int} {p : Pos} {s : Int} (h : ¬ 3000 < s + 1) (h2 : (results r p).length ≠ 0) (hd : 1 ≤ depth) : sv r depth.toNat p s = svL (sv r (depth - 1).toNat) true 0 (s + 1) (results r p) := by
  rw [show depth.toNat = (depth - 1).toNat + 1 by omega, sv_s h h2]
theorem sv_too {r : Rul} {d : Nat} {p : Pos} (h : okR r = true) : 3000 < (sv r d p 0).2 ↔ 3000 < size r d p := by
  constructor
  · intro h1
    by_cases h2 : 0 + size r d p ≤ 3000
    · rw [sv_val d p 0 (by omega) h2] at h1; simp at h1; omega
    · omega
  · intro h1
    exact sv_grow (results_8R h) d p 0 (by omega) (by omega)
def szk (r : Rul) (d : Nat) (p : Pos) (k : Nat) : Int := isum (((results r p).take k).map fun x => size r d x.next)
theorem szk_zero (r : Rul) (d : Nat) (p : Pos) : szk r d p 0 = 0 := by simp [szk]
theorem szk_step {r : Rul} {d : Nat} {p : Pos} {k : Nat} {y : Res} (h : (results r p)[k]? = some y) : szk r d p (k + 1) = szk r d p k + size r d y.next := by
  unfold szk
  rw [List.take_add_one, h, List.map_append, isum_append]
  simp
theorem szk_le (r : Rul) (d : Nat) (p : Pos) (k : Nat) : 0 ≤ szk r d p k ∧ szk r d p k + 1 ≤ size r (d + 1) p := by
  have hn : ∀ l : List Res, 0 ≤ isum (l.map fun x => size r d x.next) := fun l => nn_isum (fun v hv => by
      obtain ⟨x, _, rfl⟩ := List.mem_map.1 hv
      have := size_pos r d x.next; omega)
  have h1 := hn ((results r p).take k)
  have h2 := hn ((results r p).drop k)
  have h3 : isum ((results r p).map fun x => size r d x.next) = isum (((results r p).take k).map fun x => size r d x.next) + isum (((results r p).drop k).map fun x => size r d x.next) := by
    rw [← isum_append, ← List.map_append, List.take_append_drop]
  rw [size]; unfold szk; omega
def baseC (r : Rul) (p : Pos) (depth : Int) : Int := if okP r p = true then (if betw depth 0 8 = true then 0 else 2) else 1
def srchC (r : Rul) (p : Pos) (depth : Int) : Int := if okP r p = true then (if betw depth 0 8 = true then (if 3000 < size r depth.toNat p then 5 else 0) else 2) else 1
def optsC (r : Rul) (p : Pos) (depth : Int) : Int := if okP r p = true ∧ depth = 0 then 2 else srchC r p depth
theorem srchC_1 {r : Rul} {p : Pos} {depth : Int} (h : okP r p = false) : srchC r p depth = 1 := by unfold srchC; rw [if_neg (by simp [h])]
theorem srchC_2 {r : Rul} {p : Pos} {depth : Int} (h : okP r p = true) (h2 : betw depth 0 8 = false) : srchC r p depth = 2 := by unfold srchC; rw [if_pos h, if_neg (by simp [h2])]
theorem srchC_5 {r : Rul} {p : Pos} {depth : Int} (h : okP r p = true) (h2 : betw depth 0 8 = true) (h3 : 3000 < size r depth.toNat p) : srchC r p depth = 5 := by unfold srchC; rw [if_pos h, if_pos h2, if_pos h3]
theorem srchC_0 {r : Rul} {p : Pos} {depth : Int} (h : okP r p = true) (h2 : betw depth 0 8 = true) (h3 : ¬ 3000 < size r depth.toNat p) : srchC r p depth = 0 := by unfold srchC; rw [if_pos h, if_pos h2, if_neg h3]
theorem srchC_ok {r : Rul} {p : Pos} {depth : Int} (h : srchC r p depth = 0) : okP r p = true ∧ 0 ≤ depth ∧ depth ≤ 8 ∧ size r depth.toNat p ≤ 3000 := by
  unfold srchC at h
  by_cases h1 : okP r p = true
  · rw [if_pos h1] at h
    by_cases h2 : betw depth 0 8 = true
    · rw [if_pos h2] at h
      by_cases h3 : 3000 < size r depth.toNat p
      · rw [if_pos h3] at h; simp at h
      · have := betw_iff.1 h2; exact ⟨h1, this.1, this.2, by omega⟩
    · rw [if_neg h2] at h; simp at h
  · rw [if_neg h1] at h; simp at h
theorem optsC_2 {r : Rul} {p : Pos} {depth : Int} (h : okP r p = true ∧ depth = 0) : optsC r p depth = 2 := by unfold optsC; rw [if_pos h]
theorem optsC_s {r : Rul} {p : Pos} {depth : Int} (h : ¬ (okP r p = true ∧ depth = 0)) : optsC r p depth = srchC r p depth := by unfold optsC; rw [if_neg h]
theorem optsC_ok {r : Rul} {p : Pos} {depth : Int} (h : optsC r p depth = 0) : okP r p = true ∧ 1 ≤ depth ∧ depth ≤ 8 ∧ size r depth.toNat p ≤ 3000 ∧ srchC r p depth = 0 := by
  by_cases h1 : okP r p = true ∧ depth = 0
  · rw [optsC_2 h1] at h; simp at h
  · rw [optsC_s h1] at h
    obtain ⟨a, b, c, d⟩ := srchC_ok h
    refine ⟨a, ?_, c, d, h⟩
    by_cases h2 : depth = 0
    · exact absurd ⟨a, h2⟩ h1
    · omega
theorem baseC_1 {r : Rul} {p : Pos} {depth : Int} (h : okP r p = false) : baseC r p depth = 1 := by unfold baseC; rw [if_neg (by simp [h])]
theorem baseC_2 {r : Rul} {p : Pos} {depth : Int} (h : okP r p = true) (h2 : betw depth 0 8 = false) : baseC r p depth = 2 := by unfold baseC; rw [if_pos h, if_neg (by simp [h2])]
theorem baseC_0 {r : Rul} {p : Pos} {depth : Int} (h : okP r p = true) (h2 : betw depth 0 8 = true) : baseC r p depth = 0 := by unfold baseC; rw [if_pos h, if_pos h2]
theorem baseC_ok {r : Rul} {p : Pos} {depth : Int} (h : baseC r p depth = 0) : okP r p = true ∧ 0 ≤ depth ∧ depth ≤ 8 := by
  cases h1 : okP r p
  · rw [baseC_1 h1] at h; simp at h
  · cases h2 : betw depth 0 8
    · rw [baseC_2 h1 h2] at h; simp at h
    · have := betw_iff.1 h2; exact ⟨rfl, this.1, this.2⟩
theorem baseC_srch {r : Rul} {p : Pos} {depth : Int} (h : baseC r p depth ≠ 0) : srchC r p depth = baseC r p depth := by
  cases h1 : okP r p
  · rw [baseC_1 h1, srchC_1 h1]
  · cases h2 : betw depth 0 8
    · rw [baseC_2 h1 h2, srchC_2 h1 h2]
    · rw [baseC_0 h1 h2] at h; exact absurd rfl h
def ask (r : Rul) (p : Pos) (depth : Int) : Int × Int × Int := if srchC r p depth = 0 then (val r depth.toNat p, size r depth.toNat p, 0) else (0, 0, srchC r p depth)
theorem ask_no {r : Rul} {p : Pos} {depth : Int} (h : srchC r p depth ≠ 0) : ask r p depth = (0, 0, srchC r p depth) := by unfold ask; rw [if_neg h]
theorem ask_yes {r : Rul} {p : Pos} {depth : Int} (h : srchC r p depth = 0) : ask r p depth = (val r depth.toNat p, size r depth.toNat p, 0) := by unfold ask; rw [if_pos h]
theorem ask_c (r : Rul) (p : Pos) (depth : Int) : (ask r p depth).2.2 = srchC r p depth := by
  by_cases h : srchC r p depth = 0
  · rw [ask_yes h, h]
  · rw [ask_no h]
theorem ask_5 {r : Rul} {p : Pos} {depth : Int} (h : baseC r p depth = 0) (h2 : 3000 < (sv r depth.toNat p 0).2) : ask r p depth = (0, 0, 5) := by
  obtain ⟨a, b, c⟩ := baseC_ok h
  have h3 := srchC_5 a (betw_iff.2 ⟨b, c⟩) ((sv_too (okP_okR a)).1 h2)
  rw [ask_no (by rw [h3]; decide), h3]
theorem ask_0 {r : Rul} {p : Pos} {depth : Int} (h : baseC r p depth = 0) (h2 : ¬ 3000 < (sv r depth.toNat p 0).2) : ask r p depth = ((sv r depth.toNat p 0).1, (sv r depth.toNat p 0).2, 0) := by
  obtain ⟨a, b, c⟩ := baseC_ok h
  have h3 := fun h => h2 ((sv_too (d := depth.toNat) (p := p) (okP_okR a)).2 h)
  rw [ask_yes (srchC_0 a (betw_iff.2 ⟨b, c⟩) h3), sv_val _ _ _ (Int.le_refl 0) (by have : ¬ 3000 < size r depth.toNat p := h3; omega)]; simp
theorem ask_b {r : Rul} {p : Pos} {depth : Int} (h : baseC r p depth ≠ 0) : ask r p depth = (0, 0, baseC r p depth) := by
  have := baseC_srch h
  rw [ask_no (by rw [this]; exact h), this]
theorem optsC_base {r : Rul} {p : Pos} {depth : Int} (h : baseC r p depth ≠ 0) : optsC r p depth = baseC r p depth := by
  cases h1 : okP r p
  · rw [baseC_1 h1, optsC_s (by simp [h1]), srchC_1 h1]
  · cases h2 : betw depth 0 8
    · rw [baseC_2 h1 h2, optsC_s ?_, srchC_2 h1 h2]
      rintro ⟨_, rfl⟩
      exact absurd h2 (by decide)
    · rw [baseC_0 h1 h2] at h; exact absurd rfl h
def optOf (r : Rul) (d : Nat) (x : Res) : Opt := ⟨x.move, moveV x (val r d x.next)⟩
def opts (r : Rul) (p : Pos) (depth : Int) : List Opt := (results r p).map (optOf r (depth - 1).toNat)
theorem opts_len (r : Rul) (p : Pos) (depth : Int) : (opts r p depth).length = (results r p).length := by simp [opts]
theorem opts_step {r : Rul} {p : Pos} {depth : Int} {k : Nat} {y : Res} (h : (results r p)[k]? = some y) : (opts r p depth).take (k + 1) = (opts r p depth).take k ++ [Opt.mk y.move (moveV y (val r (depth - 1).toNat y.next))] := by
  have h1 : (opts r p depth)[k]? = some (optOf r (depth - 1).toNat y) := by unfold opts; rw [List.getElem?_map, h]; rfl
  rw [List.take_add_one, h1]; rfl
def optsR (r : Rul) (p : Pos) (depth : Int) : List Opt := if optsC r p depth = 0 then opts r p depth else []
theorem optsR_yes {r : Rul} {p : Pos} {depth : Int} (h : optsC r p depth = 0) : optsR r p depth = opts r p depth := by unfold optsR; rw [if_pos h]
theorem optsR_no {r : Rul} {p : Pos} {depth : Int} (h : optsC r p depth ≠ 0) : optsR r p depth = [] := by unfold optsR; rw [if_neg h]
theorem optsR_len (r : Rul) (p : Pos) (depth : Int) : (optsR r p depth).length ≤ 8 := by
  by_cases h : optsC r p depth = 0
  · rw [optsR_yes h, opts_len]; exact results_8 (optsC_ok h).1
  · rw [optsR_no h]; simp
def bOptF (b : Opt) : List Opt → Opt
  | [] => b
  | o :: l => bOptF (if b.value < o.value then o else b) l
def bOpt : List Opt → Opt
  | [] => Opt.zero
  | a :: l => bOptF a l
theorem bOpt_zero {l : List Opt} {y : Opt} (h : l[0]? = some y) : bOptF y (l.drop 0) = bOpt l := by
  cases l with
  | nil => simp at h
  | cons a t => simp at h; subst h; rw [List.drop_zero, bOptF, if_neg (by omega)]; rfl
theorem bOpt_one {l : List Opt} {y : Opt} (h : l[0]? = some y) : bOptF y (l.drop 1) = bOpt l := by
  cases l with
  | nil => simp at h
  | cons a t => simp at h; subst h; rfl
theorem bOptF_y {l : List Opt} {k : Nat} {y b : Opt} {X : Opt} (h : bOptF b (l.drop k) = X) (hy : l[k]? = some y) (hv : b.value < y.value) : bOptF y (l.drop (k + 1)) = X := by
  rw [drop_some hy, bOptF, if_pos hv] at h; exact h
theorem bOptF_n {l : List Opt} {k : Nat} {y b : Opt} {X : Opt} (h : bOptF b (l.drop k) = X) (hy : l[k]? = some y) (hv : ¬ b.value < y.value) : bOptF b (l.drop (k + 1)) = X := by
  rw [drop_some hy, bOptF, if_neg hv] at h; exact h
theorem bOptF_e {l : List Opt} {k : Nat} {b : Opt} {X : Opt} (h : bOptF b (l.drop k) = X) (hk : l.length ≤ k) : b = X := by
  rw [List.drop_eq_nil_of_le hk] at h; exact h
theorem bOptF_mem : ∀ (l : List Opt) (b : Opt), bOptF b l = b ∨ bOptF b l ∈ l
  | [], b => .inl rfl
  | o :: l, b => by
    rw [bOptF]
    rcases bOptF_mem l (if b.value < o.value then o else b) with h | h
    · rw [h]; split
      · exact .inr (by simp)
      · exact .inl rfl
    · exact .inr (by simp [h])
theorem bOpt_mem {l : List Opt} (h : l.length ≠ 0) : bOpt l ∈ l := by
  cases l with
  | nil => simp at h
  | cons a t =>
    rcases bOptF_mem t a with e | e
    · show bOptF a t ∈ _; rw [e]; simp
    · show bOptF a t ∈ _; simp [e]
theorem bOpt_make {r : Rul} {p : Pos} {depth : Int} (h : (results r p).length ≠ 0) : (make r p (bOpt (opts r p depth)).move).2 = 0 ∧ (make r p (bOpt (opts r p depth)).move).1 ∈ results r p := by
  have h1 := bOpt_mem (l := opts r p depth) (by rw [opts_len]; exact h)
  obtain ⟨x, hx, e⟩ := List.mem_map.1 h1
  obtain ⟨m, hm, rfl⟩ := results_fact hx
  have h3 := (make_ok hm).2.2.2.2.1
  have h4 : (bOpt (opts r p depth)).move = m := by rw [← e]; exact h3
  rw [h4]; exact ⟨hm, hx⟩
theorem opts_bd {r : Rul} {p : Pos} {depth : Int} (h : okP r p = true) (h1 : 0 ≤ depth) (h2 : depth ≤ 8) {o : Opt} (ho : o ∈ opts r p depth) : -2000 ≤ o.value ∧ o.value ≤ 2000 := by
  obtain ⟨x, hx, rfl⟩ := List.mem_map.1 ho
  have h3 := val_bd (depth - 1).toNat x.next (results_ok hx)
  have h4 := moveV_bd (results_gain hx) h3
  show -2000 ≤ moveV _ _ ∧ moveV _ _ ≤ 2000
  omega
def lineT (r : Rul) : Nat → Pos → List Int
  | 0, _ => []
  | d + 1, p => if (results r p).length = 0 then [] else (bOpt (opts r p (d + 1 : Nat))).move :: lineT r d (make r p (bOpt (opts r p (d + 1 : Nat))).move).1.next
theorem lineT_end {r : Rul} {d : Nat} {p : Pos} (h : (results r p).length = 0) : lineT r d p = [] := by
  cases d with
  | zero => rfl
  | succ d => rw [lineT, if_pos h]
structure Line (r : Rul) (p0 : Pos) (d0 : Int) (out : List Int) (p : Pos) (depth : Int) : Prop where
  ok : okP r p = true
  lo : 0 ≤ depth
  hi : depth ≤ 8
  sz : size r depth.toNat p ≤ 3000
  eq : out ++ lineT r depth.toNat p = lineT r d0.toNat p0
  ln : (out.length : Int) + depth = d0
theorem Line.zero {r : Rul} {p : Pos} {d : Int} (h : srchC r p d = 0) : Line r p d [] p d := by
  obtain ⟨a, b, c, e⟩ := srchC_ok h
  exact ⟨a, b, c, e, rfl, by simp⟩
theorem Line.end_ {r : Rul} {p0 p : Pos} {d0 d : Int} {out : List Int} (h : Line r p0 d0 out p d) (hd : (results r p).length = 0) : lineT r d0.toNat p0 = out := by
  have := h.eq; rw [lineT_end hd, List.append_nil] at this; exact this.symm
theorem Line.done {r : Rul} {p0 p : Pos} {d0 d : Int} {out : List Int} (h : Line r p0 d0 out p d) (hd : d ≤ 0) : lineT r d0.toNat p0 = out := by
  have := h.eq; rw [show d.toNat = 0 by omega, lineT, List.append_nil] at this; exact this.symm
theorem Line.step {r : Rul} {p0 p : Pos} {d0 d : Int} {out : List Int} (h : Line r p0 d0 out p d) (hd : 0 < d) (hl : (results r p).length ≠ 0) :
    Line r p0 d0 (out ++ [(bOpt (opts r p d)).move]) (make r p (bOpt (opts r p d)).move).1.next (d - 1) := by
  have hm := bOpt_make (depth := d) hl
  have e1 : d.toNat = (d - 1).toNat + 1 := by omega
  have e2 : (((d - 1).toNat + 1 : Nat) : Int) = d := by omega
  refine ⟨(make_ok hm.1).2.2.2.1, by omega, by have := h.hi; omega, ?_, ?_, ?_⟩
  · have := size_sub (d := (d - 1).toNat) hm.2
    rw [← e1] at this; have := h.sz; omega
  · have := h.eq
    rw [e1, lineT, if_neg hl, e2] at this
    rw [List.append_assoc]; exact this
  · have := h.ln; simp; omega
def lineR (r : Rul) (p : Pos) (depth : Int) : List Int := if srchC r p depth = 0 then lineT r depth.toNat p else []
theorem lineR_yes {r : Rul} {p : Pos} {depth : Int} (h : srchC r p depth = 0) : lineR r p depth = lineT r depth.toNat p := by unfold lineR; rw [if_pos h]
theorem lineR_no {r : Rul} {p : Pos} {depth : Int} (h : srchC r p depth ≠ 0) : lineR r p depth = [] := by unfold lineR; rw [if_neg h]
def second (m : Int) (s : Int) : List Opt → Int
  | [] => s
  | o :: l => second m (if o.move = m then s else if s < o.value then o.value else s) l
theorem second_s {m s : Int} {l : List Opt} {k : Nat} {y : Opt} {X : Int} (h : second m s (l.drop k) = X) (hy : l[k]? = some y) : second m (if y.move = m then s else if s < y.value then y.value else s) (l.drop (k + 1)) = X := by
  rw [drop_some hy, second] at h; exact h
theorem second_e {m s : Int} {l : List Opt} {k : Nat} {X : Int} (h : second m s (l.drop k) = X) (hk : l.length ≤ k) : s = X := by
  rw [List.drop_eq_nil_of_le hk] at h; exact h
def puz (r : Rul) (p : Pos) (depth : Int) : Puz × Int :=
  if optsC r p depth ≠ 0 then (Puz.zero, optsC r p depth)
  else if (opts r p depth).length < 2 then (Puz.zero, 6)
  else if second (bOpt (opts r p depth)).move (-1000) (opts r p depth) = (bOpt (opts r p depth)).value then (Puz.zero, 6)
  else (⟨r, p, depth, (bOpt (opts r p depth)).move, (bOpt (opts r p depth)).value, (bOpt (opts r p depth)).value - second (bOpt (opts r p depth)).move (-1000) (opts r p depth)⟩, 0)
theorem puz_c {r : Rul} {p : Pos} {depth : Int} (h : optsC r p depth ≠ 0) : puz r p depth = (Puz.zero, optsC r p depth) := by unfold puz; rw [if_pos h]
theorem puz_2 {r : Rul} {p : Pos} {depth : Int} (h : optsC r p depth = 0) (h2 : (opts r p depth).length < 2) : puz r p depth = (Puz.zero, 6) := by unfold puz; rw [if_neg (by simpa using h), if_pos h2]
theorem puz_6 {r : Rul} {p : Pos} {depth : Int} (h : optsC r p depth = 0) (h2 : ¬ (opts r p depth).length < 2) (h3 : second (bOpt (opts r p depth)).move (-1000) (opts r p depth) = (bOpt (opts r p depth)).value) : puz r p depth = (Puz.zero, 6) := by
  unfold puz; rw [if_neg (by simpa using h), if_neg h2, if_pos h3]
theorem puz_0 {r : Rul} {p : Pos} {depth : Int} (h : optsC r p depth = 0) (h2 : ¬ (opts r p depth).length < 2) (h3 : ¬ second (bOpt (opts r p depth)).move (-1000) (opts r p depth) = (bOpt (opts r p depth)).value) :
    puz r p depth = (⟨r, p, depth, (bOpt (opts r p depth)).move, (bOpt (opts r p depth)).value, (bOpt (opts r p depth)).value - second (bOpt (opts r p depth)).move (-1000) (opts r p depth)⟩, 0) := by
  unfold puz; rw [if_neg (by simpa using h), if_neg h2, if_neg h3]
def samez (a b : Puz) : Bool := decide (a.rules = b.rules) && sameP a.position b.position && decide (a.depth = b.depth) && decide (a.move = b.move) && decide (a.value = b.value) && decide (a.margin = b.margin)
theorem samez_eq {a b : Puz} (h : samez a b = true) : a = b := by
  unfold samez at h
  simp only [Bool.and_eq_true, decide_eq_true_eq, sameP_true] at h
  obtain ⟨⟨⟨⟨⟨h1, h2⟩, h3⟩, h4⟩, h5⟩, h6⟩ := h
  exact puz_ext h1 h2 h3 h4 h5 h6
def okZ (z : Puz) : Bool := decide ((puz z.rules z.position z.depth).2 = 0) && samez (puz z.rules z.position z.depth).1 z
theorem okZ_parts {z : Puz} (h : okZ z = true) : optsC z.rules z.position z.depth = 0 ∧ puz z.rules z.position z.depth = (z, 0) := by
  unfold okZ at h
  simp only [Bool.and_eq_true, decide_eq_true_eq] at h
  have h2 := samez_eq h.2
  refine ⟨?_, Prod.ext h2 h.1⟩
  by_cases h3 : optsC z.rules z.position z.depth = 0
  · exact h3
  · have := h.1; rw [puz_c h3] at this; exact absurd this h3
theorem okZ_val {z : Puz} (h : okZ z = true) : -2000 ≤ z.value ∧ z.value ≤ 2000 := by
  obtain ⟨a, b⟩ := okZ_parts h
  have ho := optsC_ok a
  have e : (puz z.rules z.position z.depth).1.value = z.value := by rw [b]
  unfold puz at b e
  rw [if_neg (by simpa using a)] at b e
  by_cases h2 : (opts z.rules z.position z.depth).length < 2
  · rw [if_pos h2] at b; simp at b
  rw [if_neg h2] at b e
  split at b
  · simp at b
  · rename_i h3
    rw [if_neg h3] at e
    rw [← e]
    exact opts_bd ho.1 (by omega) ho.2.2.1 (bOpt_mem (by omega))
def ans (z : Puz) (move : Int) : Int × Int :=
  if okZ z = true then (if (make z.rules z.position move).2 = 0 then (z.value - moveV (make z.rules z.position move).1 (val z.rules (z.depth - 1).toNat (make z.rules z.position move).1.next), 0) else (0, (make z.rules z.position move).2)) else (0, 1)
theorem ans_1 {z : Puz} {move : Int} (h : okZ z = false) : ans z move = (0, 1) := by unfold ans; rw [if_neg (by simp [h])]
theorem ans_c {z : Puz} {move : Int} (h : okZ z = true) (h2 : (make z.rules z.position move).2 ≠ 0) : ans z move = (0, (make z.rules z.position move).2) := by unfold ans; rw [if_pos h, if_neg h2]
theorem ans_0 {z : Puz} {move : Int} (h : okZ z = true) (h2 : (make z.rules z.position move).2 = 0) :
    ans z move = (z.value - moveV (make z.rules z.position move).1 (val z.rules (z.depth - 1).toNat (make z.rules z.position move).1.next), 0) := by unfold ans; rw [if_pos h, if_pos h2]
def sol (z : Puz) : List Int := if okZ z = true then lineR z.rules z.position z.depth else []
def solC (z : Puz) : Int := if okZ z = true then srchC z.rules z.position z.depth else 1
theorem sol_yes {z : Puz} (h : okZ z = true) : sol z = lineR z.rules z.position z.depth := by unfold sol; rw [if_pos h]
theorem sol_no {z : Puz} (h : okZ z = false) : sol z = [] := by unfold sol; rw [if_neg (by simp [h])]
theorem solC_yes {z : Puz} (h : okZ z = true) : solC z = srchC z.rules z.position z.depth := by unfold solC; rw [if_pos h]
theorem solC_no {z : Puz} (h : okZ z = false) : solC z = 1 := by unfold solC; rw [if_neg (by simp [h])]
def turnP (r : Rul) (p : Pos) : Pos := ⟨p.pits.drop r.pits.toNat ++ p.pits.take r.pits.toNat, [nth p.stores 1, nth p.stores 0], 1 - p.player⟩
def turnZ (z : Puz) : Puz × Int := if okZ z = true then (⟨z.rules, turnP z.rules z.position, z.depth, z.move, z.value, z.margin⟩, 0) else (Puz.zero, 1)
theorem turnZ_no {z : Puz} (h : okZ z = false) : turnZ z = (Puz.zero, 1) := by unfold turnZ; rw [if_neg (by simp [h])]
theorem turnZ_yes {z : Puz} (h : okZ z = true) : turnZ z = (⟨z.rules, turnP z.rules z.position, z.depth, z.move, z.value, z.margin⟩, 0) := by unfold turnZ; rw [if_pos h]
structure SmallP (p : Pos) : Prop where
  sp : p.pits.length ≤ 4194304
  ss : p.stores.length ≤ 4194304
theorem SmallP.zero : SmallP Pos.zero := ⟨by decide, by decide⟩
theorem SmallP.ok {r : Rul} {p : Pos} (h : okP r p = true) : SmallP p := ⟨(okP_len h).1, (okP_len h).2⟩
theorem puz_small (r : Rul) (p : Pos) (depth : Int) : SmallP (puz r p depth).1.position := by
  unfold puz
  split
  · exact SmallP.zero
  · rename_i h
    have hp := (optsC_ok (by simpa using h)).1
    split
    · exact SmallP.zero
    split
    · exact SmallP.zero
    · exact SmallP.ok hp
def opl (r : Rul) (k : Int) : Int := if k < 0 then k else if k < r.pits then k + r.pits else k - r.pits
def rot (r : Rul) (l : List Int) : List Int := l.drop r.pits.toNat ++ l.take r.pits.toNat
def twS (d0 d1 : Int) (ss : List Int) : List Int := [nth ss 1 + d1, nth ss 0 + d0]
def twSw (r : Rul) (d0 d1 : Int) (s : Sw) : Sw := ⟨rot r s.pits, twS d0 d1 s.stores, opl r s.last, s.laps⟩
def twP (r : Rul) (d0 d1 : Int) (p : Pos) : Pos := ⟨rot r p.pits, twS d0 d1 p.stores, 1 - p.player⟩
def twR (r : Rul) (d0 d1 : Int) (x : Res) : Res := ⟨x.move, x.gain, x.again, twP r d0 d1 x.next⟩
theorem opl_neg {r : Rul} {k : Int} (h : k < 0) : opl r k = k := by unfold opl; rw [if_pos h]
theorem opl_lo {r : Rul} {k : Int} (h : 0 ≤ k) (h1 : k < r.pits) : opl r k = k + r.pits := by unfold opl; rw [if_neg (by omega), if_pos h1]
theorem opl_hi {r : Rul} {k : Int} (h : 0 ≤ k) (h1 : r.pits ≤ k) : opl r k = k - r.pits := by unfold opl; rw [if_neg (by omega), if_neg (by omega)]
theorem opl_cases (r : Rul) (k : Int) : (k < 0 ∧ opl r k = k) ∨ (0 ≤ k ∧ k < r.pits ∧ opl r k = k + r.pits) ∨ (0 ≤ k ∧ r.pits ≤ k ∧ opl r k = k - r.pits) := by
  by_cases h : k < 0
  · exact .inl ⟨h, opl_neg h⟩
  · by_cases h1 : k < r.pits
    · exact .inr (.inl ⟨by omega, h1, opl_lo (by omega) h1⟩)
    · exact .inr (.inr ⟨by omega, by omega, opl_hi (by omega) (by omega)⟩)
theorem rot_len (r : Rul) (l : List Int) : (rot r l).length = l.length := by simp [rot]; omega
theorem getI_rot {r : Rul} {l : List Int} (hl : (l.length : Int) = 2 * r.pits) {k : Int} (h0 : 0 ≤ k) (h1 : k < 2 * r.pits) : getI (rot r l) (opl r k) = getI l k := by
  unfold getI nth rot
  rw [List.getD_eq_getElem?_getD, List.getD_eq_getElem?_getD]
  rcases opl_cases r k with ⟨a, b⟩ | ⟨a, b, c⟩ | ⟨a, b, c⟩
  · omega
  · rw [c, List.getElem?_append_right (by simp; omega), List.getElem?_take_of_lt (by simp; omega)]
    congr 2; simp; omega
  · rw [c, List.getElem?_append_left (by simp; omega), List.getElem?_drop]
    congr 2; omega
theorem setI_rot {r : Rul} {l : List Int} (hl : (l.length : Int) = 2 * r.pits) {k : Int} (h0 : 0 ≤ k) (h1 : k < 2 * r.pits) (v : Int) : setI (rot r l) (opl r k) v = rot r (setI l k v) := by
  unfold setI rot
  rcases opl_cases r k with ⟨a, b⟩ | ⟨a, b, c⟩ | ⟨a, b, c⟩
  · omega
  · rw [c, List.set_append_right _ _ (by simp; omega), List.drop_set, if_pos (by omega), List.take_set]
    congr 2; simp; omega
  · have e : (List.take r.pits.toNat l).set k.toNat v = List.take r.pits.toNat l := List.set_eq_of_length_le (by simp; omega)
    rw [c, List.set_append_left _ _ (by simp; omega), List.drop_set, if_neg (by omega), List.take_set, e]
    congr 2; omega
theorem two_list {ss : List Int} (h : ss.length = 2) : ss = [nth ss 0, nth ss 1] := by
  match ss, h with
  | [a, b], _ => rfl
theorem twS_put {d0 d1 pl c : Int} {ss : List Int} (h : ss.length = 2) (hp : pl = 0 ∨ pl = 1) : setI (twS d0 d1 ss) (1 - pl) (getI (twS d0 d1 ss) (1 - pl) + c) = twS d0 d1 (setI ss pl (getI ss pl + c)) := by
  match ss, h with
  | [a, b], _ =>
    rcases hp with rfl | rfl
    · show [b + d1, a + d0 + c] = [b + d1, a + c + d0]
      rw [Int.add_right_comm]
    · show [b + d1 + c, a + d0] = [b + c + d1, a + d0]
      rw [Int.add_right_comm]
theorem twS_get {d0 d1 pl : Int} {ss : List Int} (hp : pl = 0 ∨ pl = 1) : getI (twS d0 d1 ss) (1 - pl) = getI ss pl + if pl = 0 then d0 else d1 := by
  rcases hp with rfl | rfl <;> rfl
theorem opl_bd {r : Rul} {k : Int} (hr : 2 ≤ r.pits) (h0 : -1 ≤ k) (h1 : k < 2 * r.pits) : -1 ≤ opl r k ∧ opl r k < 2 * r.pits := by
  rcases opl_cases r k with a | a | a <;> omega
theorem opl_inj {r : Rul} {a b : Int} (ha : -1 ≤ a) (ha1 : a < 2 * r.pits) (hb : -1 ≤ b) (hb1 : b < 2 * r.pits) (hr : 2 ≤ r.pits) : opl r a = opl r b ↔ a = b := by
  constructor
  · intro h
    rcases opl_cases r a with x | x | x <;> rcases opl_cases r b with y | y | y <;> omega
  · rintro rfl; rfl
theorem after_key {r : Rul} {k m A B : Int} (hr : 2 ≤ r.pits) (h0 : -1 ≤ k) (h1 : k < 2 * r.pits)
    (hA : (k = m - 1 ∧ r.stores = true ∧ A = -1) ∨ (¬ (k = m - 1 ∧ r.stores = true) ∧ ((k = -1 ∧ A = m % (2 * r.pits)) ∨ (0 ≤ k ∧ k + 1 = 2 * r.pits ∧ A = 0) ∨ (0 ≤ k ∧ k + 1 < 2 * r.pits ∧ A = k + 1))))
    (hB : (opl r k = 3 * r.pits - m - 1 ∧ r.stores = true ∧ B = -1) ∨ (¬ (opl r k = 3 * r.pits - m - 1 ∧ r.stores = true) ∧ ((opl r k = -1 ∧ B = (3 * r.pits - m) % (2 * r.pits)) ∨ (0 ≤ opl r k ∧ opl r k + 1 = 2 * r.pits ∧ B = 0) ∨ (0 ≤ opl r k ∧ opl r k + 1 < 2 * r.pits ∧ B = opl r k + 1))))
    (hm : m = r.pits ∨ m = 2 * r.pits) : B = opl r A := by
  have e1 : r.pits % (2 * r.pits) = r.pits := Int.emod_eq_of_lt (by omega) (by omega)
  have e2 : (2 * r.pits) % (2 * r.pits) = 0 := Int.emod_self
  have hk := opl_cases r k
  have hA' := opl_cases r A
  by_cases hs : r.stores = true
  · simp only [hs, true_and, and_true] at hA hB
    rcases hm with rfl | rfl
    · rw [show 3 * r.pits - r.pits = 2 * r.pits by omega, e2] at hB; rw [e1] at hA; omega
    · rw [show 3 * r.pits - 2 * r.pits = r.pits by omega, e1] at hB; rw [e2] at hA; omega
  · simp only [hs, Bool.false_eq_true, false_and, and_false, not_false_eq_true, true_and, false_or] at hA hB
    rcases hm with rfl | rfl
    · rw [show 3 * r.pits - r.pits = 2 * r.pits by omega, e2] at hB; rw [e1] at hA; omega
    · rw [show 3 * r.pits - 2 * r.pits = r.pits by omega, e1] at hB; rw [e2] at hA; omega
theorem after_c {r : Rul} {pl k : Int} (hr : 2 ≤ r.pits) (h0 : -1 ≤ k) (h1 : k < 2 * r.pits) :
    (k = (pl + 1) * r.pits - 1 ∧ r.stores = true ∧ after r pl k = -1) ∨ (¬ (k = (pl + 1) * r.pits - 1 ∧ r.stores = true) ∧ ((k = -1 ∧ after r pl k = ((pl + 1) * r.pits) % (2 * r.pits)) ∨ (0 ≤ k ∧ k + 1 = 2 * r.pits ∧ after r pl k = 0) ∨ (0 ≤ k ∧ k + 1 < 2 * r.pits ∧ after r pl k = k + 1))) := by
  unfold after
  by_cases h : k = (pl + 1) * r.pits - 1 ∧ r.stores = true
  · rw [if_pos h]; exact .inl ⟨h.1, h.2, rfl⟩
  · rw [if_neg h]
    refine .inr ⟨h, ?_⟩
    by_cases hk : k = -1
    · rw [if_pos hk]; exact .inl ⟨hk, rfl⟩
    · rw [if_neg hk]
      by_cases h2 : k + 1 = 2 * r.pits
      · exact .inr (.inl ⟨by omega, h2, by rw [h2, Int.emod_self]⟩)
      · exact .inr (.inr ⟨by omega, by omega, Int.emod_eq_of_lt (by omega) (by omega)⟩)
theorem after_tw {r : Rul} {pl k : Int} (hr : 2 ≤ r.pits) (hp : pl = 0 ∨ pl = 1) (h0 : -1 ≤ k) (h1 : k < 2 * r.pits) : after r (1 - pl) (opl r k) = opl r (after r pl k) := by
  have hb := opl_bd hr h0 h1
  have hA := after_c (pl := pl) hr h0 h1
  have hB := after_c (pl := 1 - pl) hr hb.1 hb.2
  have e : (1 - pl + 1) * r.pits = 3 * r.pits - (pl + 1) * r.pits := by
    rw [← Int.sub_mul]; congr 1; omega
  rw [e] at hB
  refine after_key hr h0 h1 hA hB ?_
  rcases hp with rfl | rfl
  · left; rw [Int.zero_add, Int.one_mul]
  · right; rfl
theorem nxt_tw {r : Rul} {pl frm k : Int} (hr : 2 ≤ r.pits) (h8 : r.pits ≤ 8) (hp : pl = 0 ∨ pl = 1) (f0 : 0 ≤ frm) (f1 : frm < 2 * r.pits) (h0 : -1 ≤ k) (h1 : k < 2 * r.pits) : nxt r (1 - pl) (opl r frm) (opl r k) = opl r (nxt r pl frm k) := by
  have ha := after_bd r h8 hr hp h0
  have e := after_tw hr hp h0 h1
  have e2 := after_tw hr hp (k := frm) (by omega) f1
  unfold nxt
  rw [e, e2]
  by_cases hs : r.skip = true ∧ after r pl k = frm
  · rw [if_pos hs, if_pos ⟨hs.1, by rw [hs.2]⟩]
  · rw [if_neg hs, if_neg (fun h => hs ⟨h.1, (opl_inj ha.1 ha.2 (by omega) f1 hr).1 h.2⟩)]
theorem sow_tw {r : Rul} {pl frm d0 d1 : Int} (hr : 2 ≤ r.pits) (h8 : r.pits ≤ 8) (hp : pl = 0 ∨ pl = 1) (f0 : 0 ≤ frm) (f1 : frm < 2 * r.pits) : ∀ (n : Nat) (place : Int) (ps ss path : List Int), -1 ≤ place → place < 2 * r.pits → (ps.length : Int) = 2 * r.pits → ss.length = 2 →
    sow r (1 - pl) (opl r frm) n (opl r place) (rot r ps) (twS d0 d1 ss) (path.map (opl r)) =
      (opl r (sow r pl frm n place ps ss path).1, rot r (sow r pl frm n place ps ss path).2.1, twS d0 d1 (sow r pl frm n place ps ss path).2.2.1, (sow r pl frm n place ps ss path).2.2.2.map (opl r))
  | 0, place, ps, ss, path, _, _, _, _ => rfl
  | n + 1, place, ps, ss, path, h0, h1, hl, hs => by
    have hn := nxt_bd r h8 hr hp (frm := frm) h0 f0
    have e := nxt_tw hr h8 hp f0 f1 h0 h1
    rw [sow_succ e, sow_succ rfl]
    have hm : ∀ x : Int, path.map (opl r) ++ [opl r x] = (path ++ [x]).map (opl r) := fun x => by simp
    by_cases hc : nxt r pl frm place < 0
    · rw [if_pos hc, if_pos (by rw [opl_neg hc]; exact hc), twS_put hs hp, hm]
      exact sow_tw hr h8 hp f0 f1 n _ _ _ _ hn.1 hn.2 hl (by simpa using hs)
    · have hb : ¬ opl r (nxt r pl frm place) < 0 := by rcases opl_cases r (nxt r pl frm place) with a | a | a <;> omega
      rw [if_neg hc, if_neg hb, getI_rot hl (by omega) hn.2, setI_rot hl (by omega) hn.2, hm]
      exact sow_tw hr h8 hp f0 f1 n _ _ _ _ hn.1 hn.2 (by simpa using hl) hs
theorem lap_tw {r : Rul} {pl frm d0 d1 : Int} {s : Sw} {path : List Int} (hr : 2 ≤ r.pits) (h8 : r.pits ≤ 8) (hp : pl = 0 ∨ pl = 1) (f0 : 0 ≤ frm) (f1 : frm < 2 * r.pits) (hG : Good r s.pits s.stores 0) :
    lap r (1 - pl) (opl r frm) (twSw r d0 d1 s) (path.map (opl r)) = (twSw r d0 d1 (lap r pl frm s path).1, (lap r pl frm s path).2.map (opl r)) := by
  have hl := hG.lp
  unfold lap twSw
  simp only
  rw [getI_rot hl f0 f1, setI_rot hl f0 f1, sow_tw hr h8 hp f0 f1 _ _ _ _ _ (by omega) f1 (by simpa using hl) hG.ls]
theorem more_tw {r : Rul} {d0 d1 : Int} {s : Sw} (hr : 2 ≤ r.pits) (hG : Good r s.pits s.stores 0) (h0 : -1 ≤ s.last) (h1 : s.last < 2 * r.pits) : more r (twSw r d0 d1 s) = more r s := by
  unfold more twSw
  simp only
  rcases opl_cases r s.last with ⟨a, b⟩ | ⟨a, b, c⟩ | ⟨a, b, c⟩
  · rw [decide_eq_false (p := 0 ≤ opl r s.last) (by omega), decide_eq_false (p := 0 ≤ s.last) (by omega)]; simp
  · rw [getI_rot hG.lp a h1, decide_eq_true (p := 0 ≤ opl r s.last) (by omega), decide_eq_true (p := 0 ≤ s.last) (by omega)]
  · rw [getI_rot hG.lp a h1, decide_eq_true (p := 0 ≤ opl r s.last) (by omega), decide_eq_true (p := 0 ≤ s.last) (by omega)]
theorem mv_tw {r : Rul} {pl d0 d1 : Int} (hr : 2 ≤ r.pits) (h8 : r.pits ≤ 8) (hp : pl = 0 ∨ pl = 1) : ∀ (n : Nat) (frm : Int) (s : Sw) (path : List Int), 0 ≤ frm → frm < 2 * r.pits → Good r s.pits s.stores 0 →
    mv r (1 - pl) n (opl r frm) (twSw r d0 d1 s) (path.map (opl r)) = (mv r pl n frm s path).map fun x => (twSw r d0 d1 x.1, x.2.map (opl r))
  | 0, _, _, _, _, _, _ => rfl
  | n + 1, frm, s, path, f0, f1, hG => by
    obtain ⟨a, b, c, _⟩ := lap_keeps r path h8 hr hp f0 f1 hG
    rw [mv, mv, lap_tw hr h8 hp f0 f1 hG]
    simp only
    rw [more_tw hr a b c]
    by_cases hm : more r (lap r pl frm s path).1 = true
    · rw [if_pos hm, if_pos hm]
      exact mv_tw hr h8 hp n _ _ _ (more_last hm) c a
    · rw [if_neg hm, if_neg hm]; rfl
theorem owner_lo {r : Rul} {k : Int} (h0 : 0 ≤ k) (h1 : k < r.pits) : owner r k = 0 := Int.ediv_eq_zero_of_lt h0 h1
theorem owner_hi {r : Rul} {k : Int} (h0 : r.pits ≤ k) (h1 : k < 2 * r.pits) : owner r k = 1 := by
  unfold owner
  have h := Int.add_mul_ediv_right (k - r.pits) 1 (c := r.pits) (by omega)
  rw [Int.one_mul, Int.sub_add_cancel] at h
  rw [h, Int.ediv_eq_zero_of_lt (a := k - r.pits) (by omega) (by omega)]; rfl
theorem owner_opl {r : Rul} {k : Int} (h0 : 0 ≤ k) (h1 : k < 2 * r.pits) : owner r (opl r k) = 1 - owner r k := by
  rcases opl_cases r k with ⟨a, b⟩ | ⟨a, b, c⟩ | ⟨a, b, c⟩
  · omega
  · rw [c, owner_lo a b, owner_hi (by omega) (by omega)]; rfl
  · rw [c, owner_hi b h1, owner_lo (by omega) (by omega)]; rfl
theorem ttI_tw {r : Rul} {pl : Int} {ps : List Int} (hr : 2 ≤ r.pits) (hp : pl = 0 ∨ pl = 1) (hl : (ps.length : Int) = 2 * r.pits) : ∀ (n : Nat) (k : Int), k.toNat = n → 0 ≤ k → k < 2 * r.pits → ttI r (1 - pl) (rot r ps) (opl r k) = (ttI r pl ps k).map (opl r) := by
  intro n
  induction n with
  | zero =>
    intro k hk h0 h1
    have hz : k = 0 := by omega
    subst hz
    by_cases hc : owner r 0 = pl ∨ betw (getI ps 0) 2 3 = false
    · rw [ttI_no hc, ttI_no ?_]; · rfl
      rcases hc with hc | hc
      · left; rw [owner_opl h0 h1, hc]
      · right; rw [getI_rot hl h0 h1]; exact hc
    · have h2 : owner r 0 ≠ pl := fun h => hc (.inl h)
      have h3 : betw (getI ps 0) 2 3 = true := by simpa using fun h => hc (.inr h)
      have ho := owner_lo (r := r) (k := 0) (by omega) (by omega)
      have hz : opl r 0 = r.pits := by rw [opl_lo (by omega) (by omega)]; omega
      rw [ttI_yes (k := 0) (by omega) h2 h3, ttI_yes (k := opl r 0) (by omega) (by rw [owner_opl h0 h1]; omega) (by rw [getI_rot hl h0 h1]; exact h3)]
      rw [ttI_neg (k := 0 - 1) (by omega), ttI_no (k := opl r 0 - 1)]
      · rfl
      · left; rw [hz, owner_lo (by omega) (by omega)]; omega
  | succ n ih =>
    intro k hk h0 h1
    by_cases hc : owner r k = pl ∨ betw (getI ps k) 2 3 = false
    · rw [ttI_no hc, ttI_no ?_]; · rfl
      rcases hc with hc | hc
      · left; rw [owner_opl h0 h1, hc]
      · right; rw [getI_rot hl h0 h1]; exact hc
    · have h2 : owner r k ≠ pl := fun h => hc (.inl h)
      have h3 : betw (getI ps k) 2 3 = true := by simpa using fun h => hc (.inr h)
      have hb : 0 ≤ opl r k := by rcases opl_cases r k with a | a | a <;> omega
      rw [ttI_yes (k := k) h0 h2 h3, ttI_yes (k := opl r k) hb (by rw [owner_opl h0 h1]; omega) (by rw [getI_rot hl h0 h1]; exact h3), List.map_cons]
      congr 1
      by_cases hn : k = r.pits
      · have ho := owner_hi (r := r) (k := k) (by omega) h1
        rw [ttI_neg (k := opl r k - 1) (by rw [opl_hi h0 (by omega)]; omega), ttI_no (k := k - 1) (.inl ?_)]
        · rfl
        · rw [owner_lo (by omega) (by omega)]; omega
      · rw [show opl r k - 1 = opl r (k - 1) by rcases opl_cases r k with a | a | a <;> rcases opl_cases r (k - 1) with b | b | b <;> omega]
        exact ih (k - 1) (by omega) (by omega) (by omega)
theorem opp_opl {r : Rul} {k : Int} (h0 : 0 ≤ k) (h1 : k < 2 * r.pits) : opp r (opl r k) = opl r (opp r k) := by
  unfold opp
  rcases opl_cases r k with a | a | a <;> rcases opl_cases r (2 * r.pits - 1 - k) with b | b | b <;> omega
theorem taken_tw {r : Rul} {pl d0 d1 : Int} {s : Sw} (hr : 2 ≤ r.pits) (hp : pl = 0 ∨ pl = 1) (hG : Good r s.pits s.stores 0) (h0 : -1 ≤ s.last) (h1 : s.last < 2 * r.pits) : taken r (twSw r d0 d1 s) (1 - pl) = (taken r s pl).map (opl r) := by
  have hl := hG.lp
  unfold taken
  by_cases hn : s.last < 0
  · rw [if_pos (show (twSw r d0 d1 s).last < 0 by show opl r s.last < 0; rw [opl_neg hn]; exact hn), if_pos hn]; rfl
  · have hb : ¬ opl r s.last < 0 := by rcases opl_cases r s.last with a | a | a <;> omega
    rw [if_neg (show ¬ (twSw r d0 d1 s).last < 0 from hb), if_neg hn]
    by_cases c1 : r.capture = 1
    · rw [if_pos c1, if_pos c1]
      have e := ttI_tw hr hp hl _ s.last rfl (by omega) h1
      unfold ttI at e
      rw [if_neg hn, if_neg hb] at e
      exact e
    · rw [if_neg c1, if_neg c1]
      have g1 : getI (twSw r d0 d1 s).pits (twSw r d0 d1 s).last = getI s.pits s.last := getI_rot hl (by omega) h1
      have o1 : owner r (twSw r d0 d1 s).last = 1 - owner r s.last := owner_opl (by omega) h1
      have p1 : opp r (twSw r d0 d1 s).last = opl r (opp r s.last) := opp_opl (by omega) h1
      have g2 : getI (twSw r d0 d1 s).pits (opl r (opp r s.last)) = getI s.pits (opp r s.last) := getI_rot hl (by unfold opp; omega) (by unfold opp; omega)
      rw [g1, o1, p1, g2]
      by_cases c2 : r.capture = 2
      · rw [if_pos c2, if_pos c2]
        by_cases c4 : owner r s.last = pl ∧ getI s.pits s.last = 1 ∧ 0 < getI s.pits (opp r s.last)
        · rw [if_pos c4, if_pos ⟨by omega, c4.2⟩]; rfl
        · rw [if_neg c4, if_neg (fun h => c4 ⟨by omega, h.2⟩)]; rfl
      · rw [if_neg c2, if_neg c2]
        by_cases c3 : r.capture = 3
        · rw [if_pos c3, if_pos c3]
          by_cases c4 : owner r s.last ≠ pl ∧ getI s.pits s.last % 2 = 0
          · rw [if_pos c4, if_pos ⟨by omega, c4.2⟩]; rfl
          · rw [if_neg c4, if_neg (fun h => c4 ⟨by omega, h.2⟩)]; rfl
        · rw [if_neg c3, if_neg c3]; rfl
theorem side_tw {r : Rul} {pl : Int} {ps : List Int} (hr : 2 ≤ r.pits) (hp : pl = 0 ∨ pl = 1) (hl : (ps.length : Int) = 2 * r.pits) : side r (rot r ps) (1 - pl) = side r ps pl := by
  unfold side rot
  rcases hp with rfl | rfl
  · rw [show ((1 : Int) - 0) * r.pits = r.pits by rw [Int.sub_zero, Int.one_mul], show ((0 : Int) * r.pits).toNat = 0 by simp, List.drop_zero, List.drop_append_of_le_length (by simp; omega), List.drop_eq_nil_of_le (by simp; omega), List.nil_append, List.take_take, Nat.min_self]
  · rw [show (((1 : Int) - 1) * r.pits).toNat = 0 by simp, show ((1 : Int) * r.pits) = r.pits by rw [Int.one_mul], List.drop_zero, List.take_append_of_le_length (by simp; omega)]
theorem gone_tw {r : Rul} {pl d0 d1 : Int} {s : Sw} (hG : Good r s.pits s.stores 0) : ∀ l : List Int, (∀ x ∈ l, 0 ≤ x ∧ x < 2 * r.pits) → gone r (twSw r d0 d1 s) (1 - pl) (l.map (opl r)) = gone r s pl l
  | [], _ => rfl
  | k :: l, h => by
    have hk := h k (by simp)
    rw [List.map_cons, gone_cons, gone_cons, gone_tw hG l (fun x hx => h x (by simp [hx])), owner_opl hk.1 hk.2]
    have g : getI (twSw r d0 d1 s).pits (opl r k) = getI s.pits k := getI_rot hG.lp hk.1 hk.2
    rw [g]
    by_cases e : owner r k = pl
    · rw [if_pos e, if_pos (by omega)]
    · rw [if_neg e, if_neg (by omega)]
theorem slams_tw {r : Rul} {pl d0 d1 : Int} {s : Sw} (hr : 2 ≤ r.pits) (hp : pl = 0 ∨ pl = 1) (hG : Good r s.pits s.stores 0) (h0 : -1 ≤ s.last) (h1 : s.last < 2 * r.pits) : slams r (twSw r d0 d1 s) (1 - pl) = slams r s pl := by
  unfold slams
  rw [taken_tw hr hp hG h0 h1, gone_tw hG _ (fun x hx => taken_mem h1 hx)]
  have e : side r (twSw r d0 d1 s).pits (1 - (1 - pl)) = side r s.pits (1 - pl) := side_tw hr (by omega) hG.lp
  rw [e]
theorem captured_tw {r : Rul} {pl d0 d1 : Int} {s : Sw} (hr : 2 ≤ r.pits) (hp : pl = 0 ∨ pl = 1) (hG : Good r s.pits s.stores 0) (h0 : -1 ≤ s.last) (h1 : s.last < 2 * r.pits) : captured r (twSw r d0 d1 s) (1 - pl) = (captured r s pl).map (opl r) := by
  unfold captured
  rw [slams_tw hr hp hG h0 h1, taken_tw hr hp hG h0 h1]
  split
  · rfl
  · rfl
theorem zeros_tw {r : Rul} : ∀ (l ps : List Int), (ps.length : Int) = 2 * r.pits → (∀ x ∈ l, 0 ≤ x ∧ x < 2 * r.pits) → zeros (l.map (opl r)) (rot r ps) = rot r (zeros l ps)
  | [], _, _, _ => rfl
  | k :: l, ps, hl, h => by
    have hk := h k (by simp)
    show zeros (l.map (opl r)) (setI (rot r ps) (opl r k) 0) = rot r (zeros l (setI ps k 0))
    rw [setI_rot hl hk.1 hk.2]
    exact zeros_tw l _ (by simpa using hl) (fun x hx => h x (by simp [hx]))
theorem take_tw {r : Rul} {pl d0 d1 : Int} {s : Sw} (hr : 2 ≤ r.pits) (hp : pl = 0 ∨ pl = 1) (hG : Good r s.pits s.stores 0) (h0 : -1 ≤ s.last) (h1 : s.last < 2 * r.pits) : take r (twSw r d0 d1 s) (1 - pl) = twSw r d0 d1 (take r s pl) := by
  have hm : ∀ x ∈ captured r s pl, 0 ≤ x ∧ x < 2 * r.pits := fun x hx => captured_mem h1 hx
  unfold take
  rw [captured_tw hr hp hG h0 h1]
  have e1 : (twSw r d0 d1 s).pits = rot r s.pits := rfl
  have e2 : (twSw r d0 d1 s).stores = twS d0 d1 s.stores := rfl
  have e3 : ((captured r s pl).map (opl r)).map (getI (rot r s.pits)) = (captured r s pl).map (getI s.pits) := by
    rw [List.map_map]
    exact List.map_congr_left fun x hx => getI_rot hG.lp (hm x hx).1 (hm x hx).2
  rw [e1, e2, e3, zeros_tw _ _ hG.lp hm, twS_put hG.ls hp]
  rfl
theorem twP_pit {r : Rul} {p : Pos} {d0 d1 move : Int} (hok : okP r p = true) (m0 : 0 ≤ move) (m1 : move < r.pits) : (twP r d0 d1 p).player * r.pits + move = opl r (p.player * r.pits + move) := by
  obtain ⟨b1, b2, b3, b4, b5, b6, b7⟩ := okP_bd hok
  show (1 - p.player) * r.pits + move = _
  rcases b7 with e | e <;> rw [e]
  · rw [opl_lo (by omega) (by omega)]; omega
  · rw [opl_hi (by omega) (by omega)]; omega
theorem mv_last {r : Rul} {pl frm : Int} {n : Nat} {path : List Int} (s t : Sw) (h1 : s.pits = t.pits) (h2 : s.stores = t.stores) (h3 : s.laps = t.laps) : mv r pl (n + 1) frm s path = mv r pl (n + 1) frm t path := by
  have e : lap r pl frm s path = lap r pl frm t path := by unfold lap; rw [h1, h2, h3]
  rw [mv, mv, e]
theorem sowMove_tw {r : Rul} {p : Pos} {d0 d1 : Int} (hok : okP r p = true) (hoq : okP r (twP r d0 d1 p) = true) (move : Int) :
    (sowMove r (twP r d0 d1 p) move).1 = (sowMove r p move).1 ∧ ((sowMove r p move).1 = 0 → (sowMove r (twP r d0 d1 p) move).2.1 = twSw r d0 d1 (sowMove r p move).2.1) := by
  obtain ⟨b1, b2, b3, b4, b5, b6, b7⟩ := okP_bd hok
  have hc : sowCode r (twP r d0 d1 p) move = sowCode r p move := by
    have c1 : ∀ x, okP r x = true → sowCode r x move = if betw move 0 (r.pits - 1) = false then 2 else if getI x.pits (x.player * r.pits + move) = 0 then 6 else 0 := fun x hx => by unfold sowCode; rw [if_neg (by simp [hx])]
    rw [c1 _ hok, c1 _ hoq]
    cases hb : betw move 0 (r.pits - 1)
    · rfl
    · obtain ⟨m0, m1⟩ := betw_iff.1 hb
      have e : getI (twP r d0 d1 p).pits (opl r (p.player * r.pits + move)) = getI p.pits (p.player * r.pits + move) := getI_rot b3 (by rcases b7 with e | e <;> rw [e] <;> omega) (by rcases b7 with e | e <;> rw [e] <;> omega)
      rw [twP_pit hok m0 (by omega), e]
  unfold sowMove
  rw [hc]
  by_cases hz : sowCode r p move = 0
  · rw [if_neg (by simpa using hz), if_neg (by simpa using hz)]
    obtain ⟨_, m0, m1, _⟩ := sowCode_ok hz
    have e := mv_tw (d0 := d0) (d1 := d1) b1 b2 b7 100 (p.player * r.pits + move) ⟨p.pits, p.stores, 0, 0⟩ [] (by rcases b7 with e | e <;> rw [e] <;> omega) (by rcases b7 with e | e <;> rw [e] <;> omega) (Good.of_ok hok)
    rw [← twP_pit (d0 := d0) (d1 := d1) hok m0 m1] at e
    have e2 : mv r (twP r d0 d1 p).player 100 ((twP r d0 d1 p).player * r.pits + move) ⟨(twP r d0 d1 p).pits, (twP r d0 d1 p).stores, 0, 0⟩ [] = (mv r p.player 100 (p.player * r.pits + move) ⟨p.pits, p.stores, 0, 0⟩ []).map fun x => (twSw r d0 d1 x.1, x.2.map (opl r)) := by
      exact (mv_last (n := 99) ⟨(twP r d0 d1 p).pits, (twP r d0 d1 p).stores, 0, 0⟩ (twSw r d0 d1 ⟨p.pits, p.stores, 0, 0⟩) rfl rfl rfl).trans e
    rw [e2]
    cases hmv : mv r p.player 100 (p.player * r.pits + move) ⟨p.pits, p.stores, 0, 0⟩ [] with
    | none => exact ⟨rfl, fun h => by simp at h⟩
    | some x => exact ⟨rfl, fun _ => rfl⟩
  · rw [if_pos hz, if_pos hz]; exact ⟨rfl, fun h => absurd h hz⟩
theorem done_tw {r : Rul} {p : Pos} {d0 d1 : Int} (hok : okP r p = true) (hoq : okP r (twP r d0 d1 p) = true) (move : Int) :
    (done r (twP r d0 d1 p) move).2 = (done r p move).2 ∧ ((done r p move).2 = 0 → (done r (twP r d0 d1 p) move).1 = twSw r d0 d1 (done r p move).1) := by
  obtain ⟨b1, b2, b3, b4, b5, b6, b7⟩ := okP_bd hok
  obtain ⟨e1, e2⟩ := sowMove_tw hok hoq move
  by_cases hz : (sowMove r p move).1 = 0
  · obtain ⟨_, _, _, hG, l0, l1, _⟩ := sowMove_ok hz
    have c1 : ∀ x, (sowMove r x move).1 = 0 → done r x move = if (decide (r.slam = 1) && slams r (sowMove r x move).2.1 x.player) || (mustFeed r x && decide (side r (take r (sowMove r x move).2.1 x.player).pits (1 - x.player) = 0)) then (Sw.zero, 9) else (take r (sowMove r x move).2.1 x.player, 0) := fun x hx => by unfold done; rw [if_neg (by simpa using hx)]
    rw [c1 _ hz, c1 _ (e1.trans hz), e2 hz]
    have f1 : slams r (twSw r d0 d1 (sowMove r p move).2.1) (twP r d0 d1 p).player = slams r (sowMove r p move).2.1 p.player := slams_tw b1 b7 hG l0 l1
    have f2 : take r (twSw r d0 d1 (sowMove r p move).2.1) (twP r d0 d1 p).player = twSw r d0 d1 (take r (sowMove r p move).2.1 p.player) := take_tw b1 b7 hG l0 l1
    have f3 : mustFeed r (twP r d0 d1 p) = mustFeed r p := by
      unfold mustFeed
      have : side r (twP r d0 d1 p).pits (1 - (twP r d0 d1 p).player) = side r p.pits (1 - p.player) := side_tw (pl := 1 - p.player) b1 (by omega) b3
      rw [this]
    have f4 : side r (twSw r d0 d1 (take r (sowMove r p move).2.1 p.player)).pits (1 - (twP r d0 d1 p).player) = side r (take r (sowMove r p move).2.1 p.player).pits (1 - p.player) := side_tw (pl := 1 - p.player) b1 (by omega) (take_keeps b7 hG l1).1.lp
    rw [f1, f2, f3, f4]
    split
    · exact ⟨rfl, fun h => by simp at h⟩
    · exact ⟨rfl, fun _ => rfl⟩
  · have c2 : ∀ x, (sowMove r x move).1 ≠ 0 → done r x move = (Sw.zero, (sowMove r x move).1) := fun x hx => by unfold done; rw [if_pos hx]
    rw [c2 _ hz, c2 _ (by rw [e1]; exact hz), e1]
    exact ⟨rfl, fun h => absurd h hz⟩
theorem make_tw {r : Rul} {p : Pos} {d0 d1 : Int} (hok : okP r p = true) (hoq : okP r (twP r d0 d1 p) = true) (move : Int) :
    (make r (twP r d0 d1 p) move).2 = (make r p move).2 ∧ ((make r p move).2 = 0 → (make r (twP r d0 d1 p) move).1 = twR r d0 d1 (make r p move).1) := by
  obtain ⟨b1, b2, b3, b4, b5, b6, b7⟩ := okP_bd hok
  obtain ⟨e1, e2⟩ := done_tw hok hoq move
  rw [make_code, make_code]
  refine ⟨e1, fun hz => ?_⟩
  obtain ⟨h1, h2⟩ := done_ok hz
  obtain ⟨_, _, _, hG, l0, l1, _⟩ := sowMove_ok h1
  have ht := (take_keeps b7 hG l1).1
  rw [← h2] at ht
  have hl : -1 ≤ (done r p move).1.last := by rw [h2]; exact l0
  rw [make_yes hz, make_yes (by rw [e1]; exact hz), e2 hz]
  have a1 : decide ((twSw r d0 d1 (done r p move).1).last = -1) = decide ((done r p move).1.last = -1) := by
    have : opl r (done r p move).1.last = -1 ↔ (done r p move).1.last = -1 := by rcases opl_cases r (done r p move).1.last with a | a | a <;> omega
    show decide (opl r (done r p move).1.last = -1) = _
    rw [decide_eq_decide]; exact this
  have g1 : getI (twSw r d0 d1 (done r p move).1).stores (twP r d0 d1 p).player - getI (twP r d0 d1 p).stores (twP r d0 d1 p).player = getI (done r p move).1.stores p.player - getI p.stores p.player := by
    show getI (twS d0 d1 _) (1 - p.player) - getI (twS d0 d1 _) (1 - p.player) = _
    rw [twS_get b7, twS_get b7]; omega
  unfold resOf
  simp only
  rw [a1, g1]
  unfold twR
  simp only
  congr 1
  unfold twP
  simp only
  congr 1
  split <;> omega
theorem make_tw_ok {r : Rul} {p : Pos} {d0 d1 : Int} (hok : okP r p = true) (hoq : okP r (twP r d0 d1 p) = true) {move : Int} (hz : (make r p move).2 = 0) : okP r (make r p move).1.next = true ∧ okP r (twP r d0 d1 (make r p move).1.next) = true := by
  obtain ⟨e1, e2⟩ := make_tw hok hoq move
  refine ⟨(make_ok hz).2.2.2.1, ?_⟩
  have := (make_ok (e1.trans hz)).2.2.2.1
  rw [e2 hz] at this; exact this
theorem resultsTo_tw {r : Rul} {p : Pos} {d0 d1 : Int} (hok : okP r p = true) (hoq : okP r (twP r d0 d1 p) = true) : ∀ n : Nat, resultsTo r (twP r d0 d1 p) n = (resultsTo r p n).map (twR r d0 d1)
  | 0 => rfl
  | n + 1 => by
    obtain ⟨e1, e2⟩ := make_tw hok hoq (n : Int)
    rw [resultsTo, resultsTo, resultsTo_tw hok hoq n, e1, List.map_append]
    congr 1
    by_cases hz : (make r p n).2 = 0
    · rw [if_pos hz, if_pos hz, e2 hz]; rfl
    · rw [if_neg hz, if_neg hz]; rfl
theorem results_tw {r : Rul} {p : Pos} {d0 d1 : Int} (hok : okP r p = true) (hoq : okP r (twP r d0 d1 p) = true) : results r (twP r d0 d1 p) = (results r p).map (twR r d0 d1) := resultsTo_tw hok hoq _
theorem results_tw_ok {r : Rul} {p : Pos} {d0 d1 : Int} (hok : okP r p = true) (hoq : okP r (twP r d0 d1 p) = true) {x : Res} (hx : x ∈ results r p) : okP r x.next = true ∧ okP r (twP r d0 d1 x.next) = true := by
  obtain ⟨m, hm, rfl⟩ := results_fact hx
  exact make_tw_ok hok hoq hm
theorem endV_tw {r : Rul} {p : Pos} {d0 d1 : Int} (hok : okP r p = true) : endV r (twP r d0 d1 p) = endV r p := by
  obtain ⟨b1, b2, b3, b4, b5, b6, b7⟩ := okP_bd hok
  have h1 : side r (twP r d0 d1 p).pits (twP r d0 d1 p).player = side r p.pits p.player := side_tw b1 b7 b3
  have h2 : side r (twP r d0 d1 p).pits (1 - (twP r d0 d1 p).player) = side r p.pits (1 - p.player) := side_tw (pl := 1 - p.player) b1 (by omega) b3
  unfold endV
  rw [h1, h2]
theorem val_tw {r : Rul} {d0 d1 : Int} : ∀ (d : Nat) (p : Pos), okP r p = true → okP r (twP r d0 d1 p) = true → val r d (twP r d0 d1 p) = val r d p
  | 0, p, hok, hoq => by rw [val, val, results_tw hok hoq, List.length_map, endV_tw hok]
  | d + 1, p, hok, hoq => by
    rw [val, val, results_tw hok hoq, List.length_map, endV_tw hok, List.map_map]
    split
    · rfl
    · congr 1
      refine List.map_congr_left fun x hx => ?_
      obtain ⟨h1, h2⟩ := results_tw_ok hok hoq hx
      show moveV (twR r d0 d1 x) (val r d (twP r d0 d1 x.next)) = _
      rw [val_tw d x.next h1 h2]; rfl
theorem size_tw {r : Rul} {d0 d1 : Int} : ∀ (d : Nat) (p : Pos), okP r p = true → okP r (twP r d0 d1 p) = true → size r d (twP r d0 d1 p) = size r d p
  | 0, p, _, _ => rfl
  | d + 1, p, hok, hoq => by
    rw [size, size, results_tw hok hoq, List.map_map]
    congr 2
    refine List.map_congr_left fun x hx => ?_
    obtain ⟨h1, h2⟩ := results_tw_ok hok hoq hx
    exact size_tw d x.next h1 h2
theorem rot_rot {r : Rul} {l : List Int} (hl : (l.length : Int) = 2 * r.pits) : rot r (rot r l) = l := by
  unfold rot
  rw [List.drop_append_of_le_length (by simp; omega), List.take_append_of_le_length (by simp; omega), @List.drop_eq_nil_of_le _ (List.drop r.pits.toNat l) _ (by simp; omega), List.nil_append, List.take_of_length_le (l := List.drop _ l) (by simp; omega), List.take_append_drop]
theorem turnP_tw {r : Rul} (p : Pos) : turnP r p = twP r 0 0 p := by
  unfold turnP twP twS rot
  simp
theorem isum_rot (r : Rul) (l : List Int) : isum (rot r l) = isum l := by
  unfold rot
  conv => rhs; rw [← List.take_append_drop r.pits.toNat l]
  rw [isum_append, isum_append]; omega
theorem allOk_rot {r : Rul} {l : List Int} (h : allOk l = true) : allOk (rot r l) = true := by
  unfold rot allOk at *
  rw [List.all_eq_true] at *
  intro x hx
  rcases List.mem_append.1 hx with hx | hx
  · exact h x (List.mem_of_mem_drop hx)
  · exact h x (List.mem_of_mem_take hx)
theorem okP_mk {r : Rul} {p q : Pos} (h : okP r p = true) (h1 : q.pits.length = p.pits.length) (h2 : q.stores.length = 2) (h3 : q.player = 0 ∨ q.player = 1) (h4 : allOk q.pits = true) (h5 : allOk q.stores = true) (h6 : isum q.pits + isum q.stores ≤ isum p.pits + isum p.stores) : okP r q = true := by
  have hs := okP_sum h
  have hr := okP_okR h
  obtain ⟨b1, b2, b3, b4, b5, b6, b7⟩ := okP_bd h
  unfold okP
  simp only [Bool.and_eq_true, decide_eq_true_eq, Bool.or_eq_true]
  exact ⟨⟨⟨⟨⟨⟨hr, by rw [h1]; exact b3⟩, h2⟩, h3⟩, h4⟩, h5⟩, by omega⟩
theorem okP_turn {r : Rul} {p : Pos} (h : okP r p = true) : okP r (turnP r p) = true := by
  obtain ⟨b1, b2, b3, b4, b5, b6, b7⟩ := okP_bd h
  have e := two_list b4
  have h1 := allOk_nth b6 0
  have h2 := allOk_nth b6 1
  have e2 : isum p.stores = nth p.stores 0 + nth p.stores 1 := by
    conv => lhs; rw [e]
    simp [nth]
  refine okP_mk h (rot_len r p.pits) rfl (by show 1 - p.player = 0 ∨ 1 - p.player = 1; omega) (allOk_rot b5) ?_ ?_
  · show allOk [nth p.stores 1, nth p.stores 0] = true
    unfold allOk
    simp only [List.all_cons, List.all_nil, Bool.and_true, Bool.and_eq_true]
    exact ⟨betw_iff.2 h2, betw_iff.2 h1⟩
  · show isum (rot r p.pits) + isum [nth p.stores 1, nth p.stores 0] ≤ _
    rw [isum_rot, e2]; simp; omega
theorem size_turn {r : Rul} {p : Pos} (h : okP r p = true) (d : Nat) : size r d (turnP r p) = size r d p := by
  have ht := okP_turn h
  rw [turnP_tw] at ht ⊢
  exact size_tw d p h ht
theorem results_turn {r : Rul} {p : Pos} (h : okP r p = true) : results r (turnP r p) = (results r p).map (twR r 0 0) := by
  have ht := okP_turn h
  rw [turnP_tw] at ht ⊢
  exact results_tw h ht
theorem turn_turn {r : Rul} {p : Pos} (h : okP r p = true) : turnP r (turnP r p) = p := by
  obtain ⟨b1, b2, b3, b4, b5, b6, b7⟩ := okP_bd h
  have e1 : rot r (rot r p.pits) = p.pits := rot_rot b3
  have e2 := two_list b4
  obtain ⟨a, b, c⟩ := p
  show Pos.mk (rot r (rot r a)) [nth b 0, nth b 1] (1 - (1 - c)) = _
  rw [show rot r (rot r a) = a from e1, ← show b = [nth b 0, nth b 1] from e2]
  congr 1; omega
theorem store_add {ss : List Int} {pl a b : Int} (h : ss.length = 2) (hp : pl = 0 ∨ pl = 1) : setI (setI ss pl (getI ss pl + a)) pl (getI (setI ss pl (getI ss pl + a)) pl + b) = setI ss pl (getI ss pl + (a + b)) := by
  rw [getI_setI_same (by omega) (by omega), setI_setI, Int.add_assoc]
theorem store_same {ss : List Int} {pl : Int} (h : ss.length = 2) (hp : pl = 0 ∨ pl = 1) : setI ss pl (getI ss pl + 0) = ss := by
  match ss, h with
  | [a, b], _ => rcases hp with rfl | rfl <;> simp [setI, getI, nth]
theorem sow_st (r : Rul) {pl : Int} (hp : pl = 0 ∨ pl = 1) (frm : Int) : ∀ (n : Nat) (place : Int) (ps ss path : List Int), ss.length = 2 →
    ∃ t : Int, 0 ≤ t ∧ (sow r pl frm n place ps ss path).2.2.1 = setI ss pl (getI ss pl + t)
  | 0, place, ps, ss, path, h => ⟨0, by omega, by rw [sow]; exact (store_same h hp).symm⟩
  | n + 1, place, ps, ss, path, h => by
    rw [sow]; split
    · obtain ⟨t, h0, e⟩ := sow_st r hp frm n (nxt r pl frm place) ps (setI ss pl (getI ss pl + 1)) (path ++ [nxt r pl frm place]) (by rw [setI_length, h])
      exact ⟨1 + t, by omega, by rw [e, store_add h hp]⟩
    · exact sow_st r hp frm n _ _ ss _ h
theorem mv_st (r : Rul) {pl : Int} (hp : pl = 0 ∨ pl = 1) : ∀ (n : Nat) (frm : Int) (s : Sw) (path : List Int) (x : Sw × List Int), s.stores.length = 2 → mv r pl n frm s path = some x →
    ∃ t : Int, 0 ≤ t ∧ x.1.stores = setI s.stores pl (getI s.stores pl + t)
  | 0, frm, s, path, x, h2, h => by simp [mv] at h
  | n + 1, frm, s, path, x, h2, h => by
    obtain ⟨t, h0, e⟩ := sow_st r hp frm (getI s.pits frm).toNat frm (setI s.pits frm 0) s.stores path h2
    have e : (lap r pl frm s path).1.stores = setI s.stores pl (getI s.stores pl + t) := e
    rw [mv] at h
    split at h
    · obtain ⟨t2, h3, e2⟩ := mv_st r hp n _ _ _ x (by rw [e, setI_length, h2]) h
      exact ⟨t + t2, by omega, by rw [e2, e, store_add h2 hp]⟩
    · injection h with h; subst h; exact ⟨t, h0, e⟩
theorem sowMove_st {r : Rul} {p : Pos} {move : Int} (h : (sowMove r p move).1 = 0) : ∃ t : Int, 0 ≤ t ∧ (sowMove r p move).2.1.stores = setI p.stores p.player (getI p.stores p.player + t) := by
  obtain ⟨ho, _⟩ := sowMove_ok h
  obtain ⟨r1, r2, g1, g2, g3, g4, g5⟩ := okP_bd ho
  unfold sowMove at *
  by_cases hc : sowCode r p move = 0
  case neg => rw [if_pos hc] at h; exact absurd h hc
  rw [if_neg (by simpa using hc)] at h ⊢
  cases hmv : mv r p.player 100 (p.player * r.pits + move) ⟨p.pits, p.stores, 0, 0⟩ [] with
  | none => rw [hmv] at h; simp at h
  | some x => exact mv_st r g5 100 _ ⟨p.pits, p.stores, 0, 0⟩ [] x g2 hmv
theorem gain_of {r : Rul} {p : Pos} {move : Int} (h : (make r p move).2 = 0) : 0 ≤ (make r p move).1.gain ∧ isum (make r p move).1.next.pits + (make r p move).1.gain = isum p.pits := by
  have h1 := make_code (r := r) (p := p) (move := move)
  rw [h] at h1
  have hd := h1.symm
  obtain ⟨h2, h3⟩ := done_ok hd
  obtain ⟨hok, _, _, hG, _⟩ := sowMove_ok h2
  obtain ⟨r1, r2, g1, g2, g3, g4, g5⟩ := okP_bd hok
  obtain ⟨t, t0, et⟩ := sowMove_st h2
  have hs := (make_ok h).2.2.2.2.2
  have hc : 0 ≤ isum ((captured r (sowMove r p move).2.1 p.player).map (getI (sowMove r p move).2.1.pits)) := nn_isum fun x hx => by
    obtain ⟨k, _, rfl⟩ := List.mem_map.1 hx
    exact (hG.pit k).1
  have e2 : (done r p move).1.stores = setI p.stores p.player (getI p.stores p.player + (t + isum ((captured r (sowMove r p move).2.1 p.player).map (getI (sowMove r p move).2.1.pits)))) := by
    rw [h3]
    show setI (sowMove r p move).2.1.stores p.player (getI (sowMove r p move).2.1.stores p.player + _) = _
    rw [et, store_add g2 g5]
  rw [make_yes hd] at hs ⊢
  simp only at hs ⊢
  have e3 : (resOf r p move (done r p move).1).gain = t + isum ((captured r (sowMove r p move).2.1 p.player).map (getI (sowMove r p move).2.1.pits)) := by
    show getI (done r p move).1.stores p.player - getI p.stores p.player = _
    rw [e2, getI_setI_same (by omega) (by omega)]; omega
  have e4 : isum (resOf r p move (done r p move).1).next.stores = isum p.stores + (resOf r p move (done r p move).1).gain := by
    rw [e3]
    show isum (done r p move).1.stores = _
    rw [e2, isum_setI (by omega) (by omega)]; omega
  exact ⟨by rw [e3]; omega, by omega⟩
theorem results_pits {r : Rul} {p : Pos} {x : Res} (h : x ∈ results r p) : 0 ≤ x.gain ∧ isum x.next.pits + x.gain = isum p.pits := by
  obtain ⟨m, hm, rfl⟩ := results_fact h
  exact gain_of hm
theorem endV_pits {r : Rul} {p : Pos} (h : okP r p = true) : -isum p.pits ≤ endV r p ∧ endV r p ≤ isum p.pits := by
  obtain ⟨r1, r2, g1, g2, g3, g4, g5⟩ := okP_bd h
  have hsa := side_all (r := r) (ps := p.pits) (by omega) g1
  have a := side_bd g3 r2 p.player
  have b := side_bd g3 r2 (1 - p.player)
  unfold endV
  rcases g5 with e | e
  · rw [e] at a b ⊢; rw [show (1 : Int) - 0 = 1 from rfl] at *; omega
  · rw [e] at a b ⊢; rw [show (1 : Int) - 1 = 0 from rfl] at *; omega
theorem val_pits {r : Rul} : ∀ (d : Nat) (p : Pos), okP r p = true → -isum p.pits ≤ val r d p ∧ val r d p ≤ isum p.pits
  | 0, p, h => by
    have := endV_pits h
    have := nn_isum (nn_of_ok (okP_bd h).2.2.2.2.1)
    rw [val]; split <;> omega
  | d + 1, p, h => by
    have := endV_pits h
    have := nn_isum (nn_of_ok (okP_bd h).2.2.2.2.1)
    rw [val]; split
    · omega
    · refine bestF_bd _ _ _ (by omega) (by omega) (fun v hv => ?_)
      obtain ⟨x, hx, rfl⟩ := List.mem_map.1 hv
      have h1 := val_pits d x.next (results_ok hx)
      have h2 := results_pits hx
      unfold moveV; split <;> omega
theorem pits_96 {r : Rul} {p : Pos} (h : okP r p = true) : 0 ≤ isum p.pits ∧ isum p.pits ≤ 96 := by
  obtain ⟨r1, r2, g1, g2, g3, g4, g5⟩ := okP_bd h
  have a := nn_isum (nn_of_ok g3)
  have b := nn_isum (nn_of_ok g4)
  have := okP_sum h
  omega
theorem opts_96 {r : Rul} {p : Pos} {depth : Int} (h : okP r p = true) {o : Opt} (ho : o ∈ opts r p depth) : -96 ≤ o.value ∧ o.value ≤ 96 := by
  obtain ⟨x, hx, rfl⟩ := List.mem_map.1 ho
  have h1 := val_pits (depth - 1).toNat x.next (results_ok hx)
  have h2 := results_pits hx
  have h3 := pits_96 h
  show -96 ≤ moveV x _ ∧ moveV x _ ≤ 96
  unfold moveV; split <;> omega
theorem bOptF_ge : ∀ (l : List Opt) (b : Opt), b.value ≤ (bOptF b l).value ∧ ∀ o ∈ l, o.value ≤ (bOptF b l).value
  | [], b => ⟨Int.le_refl _, fun o h => by simp at h⟩
  | a :: l, b => by
    rw [bOptF]
    obtain ⟨h1, h2⟩ := bOptF_ge l (if b.value < a.value then a else b)
    have h3 : b.value ≤ (if b.value < a.value then a else b).value ∧ a.value ≤ (if b.value < a.value then a else b).value := by split <;> omega
    refine ⟨by omega, fun o ho => ?_⟩
    rcases List.mem_cons.1 ho with rfl | ho
    · omega
    · exact h2 o ho
theorem bOpt_ge {l : List Opt} {o : Opt} (h : o ∈ l) : o.value ≤ (bOpt l).value := by
  cases l with
  | nil => simp at h
  | cons a t =>
    have := bOptF_ge t a
    show o.value ≤ (bOptF a t).value
    rcases List.mem_cons.1 h with rfl | h
    · exact this.1
    · exact this.2 o h
theorem second_ge (m : Int) : ∀ (l : List Opt) (s : Int), s ≤ second m s l ∧ ∀ o ∈ l, o.move ≠ m → o.value ≤ second m s l
  | [], s => ⟨Int.le_refl _, fun o h => by simp at h⟩
  | a :: l, s => by
    rw [second]
    obtain ⟨h1, h2⟩ := second_ge m l (if a.move = m then s else if s < a.value then a.value else s)
    have h3 : s ≤ (if a.move = m then s else if s < a.value then a.value else s) ∧ (a.move ≠ m → a.value ≤ (if a.move = m then s else if s < a.value then a.value else s)) := by
      by_cases e : a.move = m
      · rw [if_pos e]; exact ⟨Int.le_refl _, fun h => absurd e h⟩
      · rw [if_neg e]; split <;> (refine ⟨by omega, fun _ => by omega⟩)
    refine ⟨by omega, fun o ho hm => ?_⟩
    rcases List.mem_cons.1 ho with rfl | ho
    · have := h3.2 hm; omega
    · exact h2 o ho hm
theorem second_le (m : Int) {B : Int} : ∀ (l : List Opt) (s : Int), s ≤ B → (∀ o ∈ l, o.move ≠ m → o.value ≤ B) → second m s l ≤ B
  | [], s, h, _ => h
  | a :: l, s, h, hl => by
    rw [second]
    refine second_le m l _ ?_ (fun o ho => hl o (by simp [ho]))
    by_cases e : a.move = m
    · rw [if_pos e]; exact h
    · rw [if_neg e]; have := hl a (by simp) e; split <;> omega
def leastL (v m : Int) (s : Int) : List Opt → Int
  | [] => s
  | o :: l => leastL v m (if o.move = m then s else if v - o.value < s then v - o.value else s) l
theorem least_second (v m : Int) : ∀ (l : List Opt) (s t : Int), s = v - t → leastL v m s l = v - second m t l
  | [], s, t, h => h
  | a :: l, s, t, h => by
    rw [leastL, second]
    refine least_second v m l _ _ ?_
    by_cases e : a.move = m
    · rw [if_pos e, if_pos e]; exact h
    · rw [if_neg e, if_neg e]; split <;> split <;> omega
theorem second_start (m : Int) : ∀ (l : List Opt) (s t : Int), (∃ o ∈ l, o.move ≠ m ∧ s ≤ o.value ∧ t ≤ o.value) → second m s l = second m t l
  | [], s, t, h => by obtain ⟨o, ho, _⟩ := h; simp at ho
  | a :: l, s, t, ⟨o, ho, hm, h1, h2⟩ => by
    rw [second, second]
    by_cases e : a.move = m
    · rw [if_pos e, if_pos e]
      refine second_start m l s t ⟨o, ?_, hm, h1, h2⟩
      rcases List.mem_cons.1 ho with rfl | ho
      · exact absurd e hm
      · exact ho
    · rw [if_neg e, if_neg e]
      rcases List.mem_cons.1 ho with rfl | ho
      · congr 1; split <;> split <;> omega
      · by_cases h3 : s ≤ a.value ∧ t ≤ a.value
        · congr 1; split <;> split <;> omega
        · refine second_start m l _ _ ⟨o, ho, hm, ?_, ?_⟩ <;> split <;> omega
theorem opts_moves (r : Rul) (p : Pos) (depth : Int) : (opts r p depth).map (·.move) = (results r p).map (·.move) := by
  unfold opts; rw [List.map_map]; rfl
theorem results_rise (r : Rul) (p : Pos) : ∀ n : Nat, (resultsTo r p n).Pairwise fun a b => a.move < b.move
  | 0 => by rw [resultsTo]; exact List.Pairwise.nil
  | n + 1 => by
    rw [resultsTo]
    refine List.pairwise_append.2 ⟨results_rise r p n, ?_, fun a ha b hb => ?_⟩
    · split <;> simp
    · split at hb
      · rename_i hz
        rw [List.mem_singleton.1 hb]
        obtain ⟨m, hm, hz2, rfl⟩ := resultsTo_mem.1 ha
        rw [(make_ok hz).2.2.2.2.1, (make_ok hz2).2.2.2.2.1]; omega
      · simp at hb
theorem opts_nodup {r : Rul} {p : Pos} {depth : Int} {a b : Opt} (ha : a ∈ opts r p depth) (hb : b ∈ opts r p depth) (h : a.move = b.move) : a = b := by
  obtain ⟨x, hx, rfl⟩ := List.mem_map.1 ha
  obtain ⟨y, hy, rfl⟩ := List.mem_map.1 hb
  obtain ⟨m, hm, rfl⟩ := results_fact hx
  obtain ⟨n, hn, rfl⟩ := results_fact hy
  have e1 := (make_ok hm).2.2.2.2.1
  have e2 := (make_ok hn).2.2.2.2.1
  have h : (make r p m).1.move = (make r p n).1.move := h
  have : m = n := by omega
  subst this; rfl
structure Puzzled (r : Rul) (p : Pos) (depth : Int) : Prop where
  ok : okZ (puz r p depth).1 = true
  pr : (puz r p depth).1.rules = r
  pp : (puz r p depth).1.position = p
  pd : (puz r p depth).1.depth = depth
  two : 2 ≤ (results r p).length
  mar : 1 ≤ (puz r p depth).1.margin
  loss : ∀ x ∈ results r p, (ans (puz r p depth).1 x.move).2 = 0 ∧ 0 ≤ (ans (puz r p depth).1 x.move).1 ∧ (ans (puz r p depth).1 x.move).1 ≤ 200 ∧ ((ans (puz r p depth).1 x.move).1 = 0 ↔ x.move = (puz r p depth).1.move)
  sol : ∃ t, sol (puz r p depth).1 = (puz r p depth).1.move :: t
  solc : solC (puz r p depth).1 = 0
def leastA (z : Puz) (s : Int) : List Res → Int
  | [] => s
  | x :: l => leastA z (if x.move = z.move then s else if (ans z x.move).1 < s then (ans z x.move).1 else s) l
theorem puz_parts {r : Rul} {p : Pos} {depth : Int} (h : (puz r p depth).2 = 0) : optsC r p depth = 0 ∧ ¬ (opts r p depth).length < 2 ∧ ¬ second (bOpt (opts r p depth)).move (-1000) (opts r p depth) = (bOpt (opts r p depth)).value := by
  by_cases h1 : optsC r p depth = 0
  case neg => rw [puz_c h1] at h; exact absurd h h1
  by_cases h2 : (opts r p depth).length < 2
  · rw [puz_2 h1 h2] at h; simp at h
  by_cases h3 : second (bOpt (opts r p depth)).move (-1000) (opts r p depth) = (bOpt (opts r p depth)).value
  · rw [puz_6 h1 h2 h3] at h; simp at h
  exact ⟨h1, h2, h3⟩
theorem ans_opt {r : Rul} {p : Pos} {depth : Int} (h : (puz r p depth).2 = 0) (hz : okZ (puz r p depth).1 = true) {x : Res} (hx : x ∈ results r p) : ans (puz r p depth).1 x.move = ((bOpt (opts r p depth)).value - (optOf r (depth - 1).toNat x).value, 0) := by
  obtain ⟨h1, h2, h3⟩ := puz_parts h
  have e := puz_0 h1 h2 h3
  obtain ⟨m, hm, rfl⟩ := results_fact hx
  have em := (make_ok hm).2.2.2.2.1
  have e1 : (puz r p depth).1.rules = r := by rw [e]
  have e2 : (puz r p depth).1.position = p := by rw [e]
  have e3 : (puz r p depth).1.depth = depth := by rw [e]
  have e4 : (puz r p depth).1.value = (bOpt (opts r p depth)).value := by rw [e]
  rw [em, ans_0 hz (by rw [e1, e2]; exact hm), e1, e2, e3, e4]; rfl
theorem puzzled {r : Rul} {p : Pos} {depth : Int} (h : (puz r p depth).2 = 0) : Puzzled r p depth ∧ leastA (puz r p depth).1 1000 (results r p) = (puz r p depth).1.margin := by
  obtain ⟨h1, h2, h3⟩ := puz_parts h
  have e := puz_0 h1 h2 h3
  have ho := optsC_ok h1
  have e1 : (puz r p depth).1.rules = r := by rw [e]
  have e2 : (puz r p depth).1.position = p := by rw [e]
  have e3 : (puz r p depth).1.depth = depth := by rw [e]
  have e4 : (puz r p depth).1.move = (bOpt (opts r p depth)).move := by rw [e]
  have e5 : (puz r p depth).1.margin = (bOpt (opts r p depth)).value - second (bOpt (opts r p depth)).move (-1000) (opts r p depth) := by rw [e]
  have hz : okZ (puz r p depth).1 = true := by
    unfold okZ
    rw [e1, e2, e3, h]
    simp [samez, sameP_true]
  have hl : (results r p).length = (opts r p depth).length := (opts_len r p depth).symm
  have hb := bOpt_mem (l := opts r p depth) (by omega)
  have hb96 := opts_96 ho.1 hb
  have hsec : second (bOpt (opts r p depth)).move (-1000) (opts r p depth) ≤ (bOpt (opts r p depth)).value := second_le _ _ _ (by omega) (fun o ho _ => bOpt_ge ho)
  -- the others are worse
  have worse : ∀ o ∈ opts r p depth, o.move ≠ (bOpt (opts r p depth)).move → o.value < (bOpt (opts r p depth)).value := fun o ho hm => by
    have := (second_ge (bOpt (opts r p depth)).move (opts r p depth) (-1000)).2 o ho hm
    omega
  refine ⟨⟨hz, e1, e2, e3, by omega, by rw [e5]; omega, fun x hx => ?_, ?_, ?_⟩, ?_⟩
  · rw [ans_opt h hz hx]
    have hm : optOf r (depth - 1).toNat x ∈ opts r p depth := List.mem_map.2 ⟨x, hx, rfl⟩
    have hv := bOpt_ge hm
    have hx96 := opts_96 ho.1 hm
    refine ⟨rfl, by simp only; omega, by simp only; omega, ?_⟩
    rw [e4]
    constructor
    · intro h0
      refine Classical.byContradiction fun hn => ?_
      have := worse _ hm hn
      simp only at h0; omega
    · intro h0
      have := opts_nodup hm hb h0
      rw [this]; simp
  · have hs : srchC (puz r p depth).1.rules (puz r p depth).1.position (puz r p depth).1.depth = 0 := by rw [e1, e2, e3]; exact ho.2.2.2.2
    rw [sol_yes hz, lineR_yes hs, e1, e2, e3, e4]
    have e6 : depth.toNat = (depth - 1).toNat + 1 := by omega
    have e7 : (((depth - 1).toNat + 1 : Nat) : Int) = depth := by omega
    rw [e6, lineT, if_neg (by omega), e7]
    exact ⟨_, rfl⟩
  · rw [solC_yes hz, e1, e2, e3]; exact ho.2.2.2.2
  · have key : ∀ (l : List Res) (s : Int), (∀ x ∈ l, x ∈ results r p) → leastA (puz r p depth).1 s l = leastL (bOpt (opts r p depth)).value (bOpt (opts r p depth)).move s (l.map (optOf r (depth - 1).toNat)) := by
      intro l
      induction l with
      | nil => intro s _; rfl
      | cons x l ih =>
        intro s hl
        rw [leastA, List.map_cons, leastL, ih _ (fun y hy => hl y (by simp [hy])), ans_opt h hz (hl x (by simp)), e4]
        rfl
    rw [key _ _ (fun x hx => hx), e5]
    show leastL _ _ 1000 (opts r p depth) = _
    have hother : ∃ o ∈ opts r p depth, o.move ≠ (bOpt (opts r p depth)).move ∧ -1000 ≤ o.value ∧ (bOpt (opts r p depth)).value - 1000 ≤ o.value := by
      have hlt : 1 < (opts r p depth).length := by omega
      have m0 := List.getElem_mem (l := opts r p depth) (n := 0) (by omega)
      have m1 := List.getElem_mem (l := opts r p depth) (n := 1) hlt
      by_cases q : (opts r p depth)[0].move = (bOpt (opts r p depth)).move
      · refine ⟨_, m1, fun q1 => ?_, by have := opts_96 ho.1 m1; omega, by have := opts_96 ho.1 m1; omega⟩
        have hri : ((opts r p depth).map (·.move)).Pairwise (· < ·) := by
          rw [opts_moves, List.pairwise_map]; exact results_rise r p _
        have := List.pairwise_iff_getElem.1 hri 0 1 (by rw [List.length_map]; omega) (by rw [List.length_map]; omega) (by omega)
        rw [List.getElem_map, List.getElem_map] at this
        omega
      · exact ⟨_, m0, q, by have := opts_96 ho.1 m0; omega, by have := opts_96 ho.1 m0; omega⟩
    rw [least_second _ _ _ 1000 ((bOpt (opts r p depth)).value - 1000) (by omega), second_start _ _ _ (-1000) ?_]
    obtain ⟨o, a, b, c, d⟩ := hother
    exact ⟨o, a, b, d, c⟩
theorem opts_turn {r : Rul} {p : Pos} (h : okP r p = true) (depth : Int) : opts r (turnP r p) depth = opts r p depth := by
  have ht := okP_turn h
  unfold opts
  rw [results_turn h, List.map_map]
  refine List.map_congr_left fun x hx => ?_
  have hok := okP_turn (results_ok hx)
  rw [turnP_tw] at hok
  show Opt.mk x.move (moveV (twR r 0 0 x) (val r _ (twP r 0 0 x.next))) = Opt.mk x.move (moveV x (val r _ x.next))
  rw [val_tw _ _ (results_ok hx) hok]; rfl
theorem srchC_turn {r : Rul} {p : Pos} (h : okP r p = true) (depth : Int) : srchC r (turnP r p) depth = srchC r p depth := by
  unfold srchC
  rw [if_pos h, if_pos (okP_turn h), size_turn h]
theorem optsC_turn {r : Rul} {p : Pos} (h : okP r p = true) (depth : Int) : optsC r (turnP r p) depth = optsC r p depth := by
  unfold optsC
  rw [srchC_turn h, okP_turn h, h]
theorem turnZ_ok {z : Puz} (h : (turnZ z).2 = 0) : okZ (turnZ z).1 = true ∧ turnZ (turnZ z).1 = (z, 0) := by
  cases hz : okZ z
  · rw [turnZ_no hz] at h; simp at h
  · obtain ⟨a, b⟩ := okZ_parts hz
    have hok := (optsC_ok a).1
    have h2 : (puz z.rules z.position z.depth).2 = 0 := by rw [b]
    obtain ⟨h1, h4, h3⟩ := puz_parts h2
    have e := puz_0 h1 h4 h3
    rw [b] at e
    have ez : z = ⟨z.rules, z.position, z.depth, (bOpt (opts z.rules z.position z.depth)).move, (bOpt (opts z.rules z.position z.depth)).value, (bOpt (opts z.rules z.position z.depth)).value - second (bOpt (opts z.rules z.position z.depth)).move (-1000) (opts z.rules z.position z.depth)⟩ := congrArg Prod.fst e
    have et := puz_0 (r := z.rules) (p := turnP z.rules z.position) (depth := z.depth) (by rw [optsC_turn hok]; exact h1) (by rw [opts_turn hok]; exact h4) (by rw [opts_turn hok]; exact h3)
    rw [opts_turn hok] at et
    have e1 : z.move = (bOpt (opts z.rules z.position z.depth)).move := congrArg Puz.move ez
    have e2 : z.value = (bOpt (opts z.rules z.position z.depth)).value := congrArg Puz.value ez
    have e3 : z.margin = (bOpt (opts z.rules z.position z.depth)).value - second (bOpt (opts z.rules z.position z.depth)).move (-1000) (opts z.rules z.position z.depth) := congrArg Puz.margin ez
    have hk : okZ (turnZ z).1 = true := by
      rw [turnZ_yes hz]
      unfold okZ
      simp only
      rw [et, ← e1, ← e2, ← show z.margin = z.value - second z.move (-1000) (opts z.rules z.position z.depth) by rw [e3, e1, e2]]
      simp [samez, sameP_true]
    refine ⟨hk, ?_⟩
    rw [turnZ_yes hk]
    rw [turnZ_yes hz]
    simp only
    rw [turn_turn hok]
structure Slo where
  used : Bool
  pits : List Int
  player : Int
  depth : Int
  value : Int
  bound : Int
  deriving DecidableEq
structure Mem where
  rules : Rul
  slots : List Slo
  deriving DecidableEq
structure Vst where
  memory : Mem
  hits : Int
  deriving DecidableEq
def Slo.zero : Slo := ⟨false, [], 0, 0, 0, 0⟩
def Mem.zero : Mem := ⟨Rul.zero, []⟩
def slo (l : List Slo) (k : Nat) : Slo := l.getD k Slo.zero
def hashF (h x : Int) : Int := (31 * h + x) % 1000003
def hashP (pits : List Int) (player : Int) : Int := pits.foldl hashF (player + 1)
def plc (n : Nat) (pits : List Int) (player : Int) : Int := hashP pits player % (n : Int)
@[reducible] def posS (s : Slo) : Pos := ⟨s.pits, [0, 0], s.player⟩
def freeS (s : Slo) : Bool := decide (s.pits.length = 0) && decide (s.player = 0) && decide (s.depth = 0) && decide (s.value = 0) && decide (s.bound = 0)
def stoS (l : List Slo) (s : Slo) : List Slo := if (slo l (plc l.length s.pits s.player).toNat).used = false ∨ (slo l (plc l.length s.pits s.player).toNat).depth ≤ s.depth then l.set (plc l.length s.pits s.player).toNat s else l
def fnd (l : List Slo) (p : Pos) : Slo := slo l (plc l.length p.pits p.player).toNat
def fndB (l : List Slo) (p : Pos) (d : Int) : Bool := (fnd l p).used && decide ((fnd l p).depth = d) && decide ((fnd l p).player = p.player) && decide ((fnd l p).pits = p.pits)
def mx (a b : Int) : Int := if a < b then b else a
def useS (s : Slo) (low high : Int) : Bool := decide (s.bound = 0) || decide (s.bound = 1) && decide (high ≤ s.value) || decide (s.bound = 2) && decide (s.value ≤ low)
def bndV (best low high : Int) : Int := if best ≤ low then 2 else if high ≤ best then 1 else 0
def loV (x : Res) (low high b : Int) : Int := if x.again = true then mx low b - x.gain else x.gain - high
def hiV (x : Res) (low high b : Int) : Int := if x.again = true then high - x.gain else x.gain - mx low b
def visL (f : Pos → Int → Int → List Slo × Int → Int × List Slo × Int) (low high : Int) : Int → List Slo × Int → List Res → Int × List Slo × Int
  | b, st, [] => (b, st)
  | b, st, x :: l => if high ≤ b then (b, st) else visL f low high (mx b (moveV x (f x.next (loV x low high b) (hiV x low high b) st).1)) (f x.next (loV x low high b) (hiV x low high b) st).2 l
def vis (r : Rul) : Nat → Pos → Int → Int → List Slo × Int → Int × List Slo × Int
  | 0, p, _, _, st => if (results r p).length = 0 then (endV r p, st) else (0, st)
  | d + 1, p, low, high, st =>
    if (results r p).length = 0 then (endV r p, st)
    else if (fndB st.1 p (d + 1 : Nat) && useS (fnd st.1 p) low high) = true then ((fnd st.1 p).value, st.1, st.2 + 1)
    else ((visL (vis r d) low high (-1000) st (results r p)).1, stoS (visL (vis r d) low high (-1000) st (results r p)).2.1 ⟨true, p.pits, p.player, (d + 1 : Nat), (visL (vis r d) low high (-1000) st (results r p)).1, bndV (visL (vis r d) low high (-1000) st (results r p)).1 low high⟩, (visL (vis r d) low high (-1000) st (results r p)).2.2)
structure SndS (r : Rul) (s : Slo) : Prop where
  ok : okP r (posS s) = true
  d1 : 1 ≤ s.depth
  d2 : s.depth ≤ 8
  sz : size r s.depth.toNat (posS s) ≤ 3000
  v1 : -isum s.pits ≤ s.value
  v2 : s.value ≤ isum s.pits
  bd : (s.bound = 0 ∧ s.value = val r s.depth.toNat (posS s)) ∨ (s.bound = 1 ∧ s.value ≤ val r s.depth.toNat (posS s)) ∨ (s.bound = 2 ∧ val r s.depth.toNat (posS s) ≤ s.value)
structure SndM (r : Rul) (D : Int) (l : List Slo) : Prop where
  us : ∀ i, i < l.length → (slo l i).used = true → SndS r (slo l i) ∧ plc l.length (slo l i).pits (slo l i).player = (i : Int) ∧ (slo l i).depth ≤ D
  fr : ∀ i, i < l.length → (slo l i).used = false → freeS (slo l i) = true
theorem SndM.empty (r : Rul) (D : Int) (n : Nat) : SndM r D (List.replicate n Slo.zero) := by
  have e : ∀ i, slo (List.replicate n Slo.zero) i = Slo.zero := fun i => by
    unfold slo
    rw [List.getD_eq_getElem?_getD, List.getElem?_replicate]
    split <;> rfl
  exact ⟨fun i _ h => by rw [e] at h; simp [Slo.zero] at h, fun i _ _ => by rw [e]; decide⟩
def AB (low high v V : Int) : Prop := (v ≤ low → V ≤ v) ∧ (high ≤ v → v ≤ V) ∧ (low < v → v < high → v = V)
theorem AB.refl (low high v : Int) : AB low high v v := ⟨fun _ => Int.le_refl _, fun _ => Int.le_refl _, fun _ _ => rfl⟩
end Go.Proofs.YtmgnckfhghibeaaGreat.M
namespace Go.Proofs.YtmgnckfhghibeaaGreat
open Go.RowKit
theorem cellsOk_cons {w : World} {T : Ty} {Ts : List Ty} : ∀ {vs : List Value}, cellsOk w (T :: Ts) vs → ∃ x r, vs = x :: r ∧ T.ok w x ∧ cellsOk w Ts r
  | x :: r, h => ⟨x, r, rfl, h.1, h.2⟩
theorem cellsOk_nil {w : World} : ∀ {vs : List Value}, cellsOk w [] vs → vs = []
  | [], _ => rfl
theorem drop_flat {α β : Type} (f : α → List β) (k : Nat) (hf : ∀ a, (f a).length = k) : ∀ (l : List α) (i : Nat) (a : α), l[i]? = some a → ((l.flatMap f).drop (i * k)).take k = f a
  | x :: l, 0, a, h => by
    simp at h; subst h
    simp [List.flatMap_cons, hf, List.take_append]
  | x :: l, i + 1, a, h => by
    simp at h
    rw [List.flatMap_cons, Nat.succ_mul, Nat.add_comm, ← List.drop_drop, List.drop_left' (hf x)]
    exact drop_flat f k hf l i a h
  | [], _, _, h => by simp at h
theorem flat_len {α β : Type} (f : α → List β) (k : Nat) (hf : ∀ a, (f a).length = k) : ∀ (l : List α), (l.flatMap f).length = l.length * k
  | [] => by simp
  | x :: l => by rw [List.flatMap_cons, List.length_append, hf, flat_len f k hf l, List.length_cons, Nat.succ_mul, Nat.add_comm]
instance ty_2 : TyI Tryz.prog 2 false 1 := ⟨by kernel_rfl⟩
instance ty_3 : TyI Tryz.prog 3 false 1 := ⟨by kernel_rfl⟩
instance ty_4 : TyI Tryz.prog 4 false 1 := ⟨by kernel_rfl⟩
instance ty_5 : TyI Tryz.prog 5 false 1 := ⟨by kernel_rfl⟩
instance ty_9 : TyI Tryz.prog 9 false 1 := ⟨by kernel_rfl⟩
instance ty_22 : TyI Tryz.prog 22 false 1 := ⟨by kernel_rfl⟩
instance ty_25 : TyI Tryz.prog 25 true 9 := ⟨by kernel_rfl⟩
instance ty_29 : TyI Tryz.prog 29 false 1 := ⟨by kernel_rfl⟩
instance ty_31 : TyI Tryz.prog 31 true 3 := ⟨by kernel_rfl⟩
instance ty_42 : TyI Tryz.prog 42 false 1 := ⟨by kernel_rfl⟩
instance ty_53 : TyI Tryz.prog 53 true 16 := ⟨by kernel_rfl⟩
instance ty_95 : TyI Tryz.prog 95 false 1 := ⟨by kernel_rfl⟩
instance ty_114 : TyI Tryz.prog 114 true 6 := ⟨by kernel_rfl⟩
instance ty_139 : TyI Tryz.prog 139 true 3 := ⟨by kernel_rfl⟩
instance ty_150 : TyI Tryz.prog 150 true 2 := ⟨by kernel_rfl⟩
instance ty_168 : TyI Tryz.prog 168 true 2 := ⟨by kernel_rfl⟩
instance ty_181 : TyI Tryz.prog 181 true 4 := ⟨by kernel_rfl⟩
instance ty_201 : TyI Tryz.prog 201 true 15 := ⟨by kernel_rfl⟩
instance fld_25_0 : FldI Tryz.prog 25 0 0 2 false 1 := ⟨by kernel_rfl⟩
instance fld_25_1 : FldI Tryz.prog 25 1 1 2 false 1 := ⟨by kernel_rfl⟩
instance fld_25_2 : FldI Tryz.prog 25 2 2 4 false 1 := ⟨by kernel_rfl⟩
instance fld_25_3 : FldI Tryz.prog 25 3 3 4 false 1 := ⟨by kernel_rfl⟩
instance fld_25_4 : FldI Tryz.prog 25 4 4 4 false 1 := ⟨by kernel_rfl⟩
instance fld_25_5 : FldI Tryz.prog 25 5 5 4 false 1 := ⟨by kernel_rfl⟩
instance fld_25_6 : FldI Tryz.prog 25 6 6 4 false 1 := ⟨by kernel_rfl⟩
instance fld_25_7 : FldI Tryz.prog 25 7 7 2 false 1 := ⟨by kernel_rfl⟩
instance fld_25_8 : FldI Tryz.prog 25 8 8 2 false 1 := ⟨by kernel_rfl⟩
instance fld_31_0 : FldI Tryz.prog 31 0 0 29 false 1 := ⟨by kernel_rfl⟩
instance fld_31_1 : FldI Tryz.prog 31 1 1 29 false 1 := ⟨by kernel_rfl⟩
instance fld_31_2 : FldI Tryz.prog 31 2 2 2 false 1 := ⟨by kernel_rfl⟩
instance fld_53_0 : FldI Tryz.prog 53 0 0 25 true 9 := ⟨by kernel_rfl⟩
instance fld_53_1 : FldI Tryz.prog 53 1 9 31 true 3 := ⟨by kernel_rfl⟩
instance fld_53_2 : FldI Tryz.prog 53 2 12 2 false 1 := ⟨by kernel_rfl⟩
instance fld_53_3 : FldI Tryz.prog 53 3 13 2 false 1 := ⟨by kernel_rfl⟩
instance fld_53_4 : FldI Tryz.prog 53 4 14 2 false 1 := ⟨by kernel_rfl⟩
instance fld_53_5 : FldI Tryz.prog 53 5 15 2 false 1 := ⟨by kernel_rfl⟩
instance fld_114_0 : FldI Tryz.prog 114 0 0 2 false 1 := ⟨by kernel_rfl⟩
instance fld_114_1 : FldI Tryz.prog 114 1 1 2 false 1 := ⟨by kernel_rfl⟩
instance fld_114_2 : FldI Tryz.prog 114 2 2 4 false 1 := ⟨by kernel_rfl⟩
instance fld_114_3 : FldI Tryz.prog 114 3 3 31 true 3 := ⟨by kernel_rfl⟩
instance fld_139_0 : FldI Tryz.prog 139 0 0 22 false 1 := ⟨by kernel_rfl⟩
instance fld_139_1 : FldI Tryz.prog 139 1 1 3 false 1 := ⟨by kernel_rfl⟩
instance fld_139_2 : FldI Tryz.prog 139 2 2 42 false 1 := ⟨by kernel_rfl⟩
instance fld_150_0 : FldI Tryz.prog 150 0 0 95 false 1 := ⟨by kernel_rfl⟩
instance fld_150_1 : FldI Tryz.prog 150 1 1 2 false 1 := ⟨by kernel_rfl⟩
instance fld_168_0 : FldI Tryz.prog 168 0 0 2 false 1 := ⟨by kernel_rfl⟩
instance fld_168_1 : FldI Tryz.prog 168 1 1 2 false 1 := ⟨by kernel_rfl⟩
instance fld_181_0 : FldI Tryz.prog 181 0 0 29 false 1 := ⟨by kernel_rfl⟩
instance fld_181_1 : FldI Tryz.prog 181 1 1 29 false 1 := ⟨by kernel_rfl⟩
instance fld_181_2 : FldI Tryz.prog 181 2 2 2 false 1 := ⟨by kernel_rfl⟩
instance fld_181_3 : FldI Tryz.prog 181 3 3 2 false 1 := ⟨by kernel_rfl⟩
instance fld_201_0 : FldI Tryz.prog 201 0 0 25 true 9 := ⟨by kernel_rfl⟩
instance fld_201_1 : FldI Tryz.prog 201 1 9 2 false 1 := ⟨by kernel_rfl⟩
instance fld_201_2 : FldI Tryz.prog 201 2 10 181 true 4 := ⟨by kernel_rfl⟩
instance fld_201_3 : FldI Tryz.prog 201 3 14 29 false 1 := ⟨by kernel_rfl⟩
instance eI_22 : ElI Tryz.prog 22 5 1 1 [.int .u8 0] := ⟨by kernel_rfl⟩
theorem el_22 : elOf Tryz.prog 22 = some (5, 1, 1, [.int .u8 0]) := ElI.h
instance eI_29 : ElI Tryz.prog 29 2 1 8 [.int .i64 0] := ⟨by kernel_rfl⟩
theorem el_29 : elOf Tryz.prog 29 = some (2, 1, 8, [.int .i64 0]) := ElI.h
instance eI_111 : ElI Tryz.prog 111 114 6 80 [.int .i64 0, .int .i64 0, .bool false, .slice none 0 0, .slice none 0 0, .int .i64 0] := ⟨by kernel_rfl⟩
theorem el_111 : elOf Tryz.prog 111 = some (114, 6, 80, [.int .i64 0, .int .i64 0, .bool false, .slice none 0 0, .slice none 0 0, .int .i64 0]) := ElI.h
instance eI_164 : ElI Tryz.prog 164 168 2 16 [.int .i64 0, .int .i64 0] := ⟨by kernel_rfl⟩
theorem el_164 : elOf Tryz.prog 164 = some (168, 2, 16, [.int .i64 0, .int .i64 0]) := ElI.h
instance eI_212 : ElI Tryz.prog 212 9 1 16 [.string ByteArray.empty] := ⟨by kernel_rfl⟩
theorem el_212 : elOf Tryz.prog 212 = some (9, 1, 16, [.string ByteArray.empty]) := ElI.h
instance zero_25 : ZeroI Tryz.prog 25 [.int .i64 0, .int .i64 0, .bool false, .bool false, .bool false, .bool false, .bool false, .int .i64 0, .int .i64 0] := ⟨by kernel_rfl⟩
instance zero_31 : ZeroI Tryz.prog 31 [.slice none 0 0, .slice none 0 0, .int .i64 0] := ⟨by kernel_rfl⟩
instance zero_53 : ZeroI Tryz.prog 53 [.int .i64 0, .int .i64 0, .bool false, .bool false, .bool false, .bool false, .bool false, .int .i64 0, .int .i64 0, .slice none 0 0, .slice none 0 0, .int .i64 0, .int .i64 0, .int .i64 0, .int .i64 0, .int .i64 0] := ⟨by kernel_rfl⟩
instance zero_114 : ZeroI Tryz.prog 114 [.int .i64 0, .int .i64 0, .bool false, .slice none 0 0, .slice none 0 0, .int .i64 0] := ⟨by kernel_rfl⟩
instance zero_139 : ZeroI Tryz.prog 139 [.slice none 0 0, .int .i64 0, .int .u64 0] := ⟨by kernel_rfl⟩
instance zero_150 : ZeroI Tryz.prog 150 [.pointer none, .int .i64 0] := ⟨by kernel_rfl⟩
instance zero_168 : ZeroI Tryz.prog 168 [.int .i64 0, .int .i64 0] := ⟨by kernel_rfl⟩
instance zero_181 : ZeroI Tryz.prog 181 [.slice none 0 0, .slice none 0 0, .int .i64 0, .int .i64 0] := ⟨by kernel_rfl⟩
instance zero_201 : ZeroI Tryz.prog 201 [.int .i64 0, .int .i64 0, .bool false, .bool false, .bool false, .bool false, .bool false, .int .i64 0, .int .i64 0, .int .i64 0, .slice none 0 0, .slice none 0 0, .int .i64 0, .int .i64 0, .slice none 0 0] := ⟨by kernel_rfl⟩
instance flds_25 : FldsI Tryz.prog 25 [(0, 1), (1, 1), (2, 1), (3, 1), (4, 1), (5, 1), (6, 1), (7, 1), (8, 1)] := ⟨by kernel_rfl⟩
instance flds_31 : FldsI Tryz.prog 31 [(0, 1), (1, 1), (2, 1)] := ⟨by kernel_rfl⟩
instance flds_53 : FldsI Tryz.prog 53 [(0, 9), (9, 3), (12, 1), (13, 1), (14, 1), (15, 1)] := ⟨by kernel_rfl⟩
instance flds_114 : FldsI Tryz.prog 114 [(0, 1), (1, 1), (2, 1), (3, 3)] := ⟨by kernel_rfl⟩
instance flds_139 : FldsI Tryz.prog 139 [(0, 1), (1, 1), (2, 1)] := ⟨by kernel_rfl⟩
instance flds_150 : FldsI Tryz.prog 150 [(0, 1), (1, 1)] := ⟨by kernel_rfl⟩
instance flds_168 : FldsI Tryz.prog 168 [(0, 1), (1, 1)] := ⟨by kernel_rfl⟩
instance flds_181 : FldsI Tryz.prog 181 [(0, 1), (1, 1), (2, 1), (3, 1)] := ⟨by kernel_rfl⟩
instance flds_201 : FldsI Tryz.prog 201 [(0, 9), (9, 1), (10, 4), (14, 1)] := ⟨by kernel_rfl⟩
instance fn_6 : FnI Tryz.prog 6 := ⟨by kernel_rfl⟩
instance fn_17 : FnI Tryz.prog 17 := ⟨by kernel_rfl⟩
instance fn_18 : FnI Tryz.prog 18 := ⟨by kernel_rfl⟩
instance fn_19 : FnI Tryz.prog 19 := ⟨by kernel_rfl⟩
instance fn_20 : FnI Tryz.prog 20 := ⟨by kernel_rfl⟩
instance fn_21 : FnI Tryz.prog 21 := ⟨by kernel_rfl⟩
instance fn_22 : FnI Tryz.prog 22 := ⟨by kernel_rfl⟩
instance fn_23 : FnI Tryz.prog 23 := ⟨by kernel_rfl⟩
instance fn_24 : FnI Tryz.prog 24 := ⟨by kernel_rfl⟩
instance fn_25 : FnI Tryz.prog 25 := ⟨by kernel_rfl⟩
instance fn_26 : FnI Tryz.prog 26 := ⟨by kernel_rfl⟩
instance fn_27 : FnI Tryz.prog 27 := ⟨by kernel_rfl⟩
instance fn_28 : FnI Tryz.prog 28 := ⟨by kernel_rfl⟩
instance fn_29 : FnI Tryz.prog 29 := ⟨by kernel_rfl⟩
instance fn_30 : FnI Tryz.prog 30 := ⟨by kernel_rfl⟩
instance fn_40 : FnI Tryz.prog 40 := ⟨by kernel_rfl⟩
instance fn_44 : FnI Tryz.prog 44 := ⟨by kernel_rfl⟩
instance fn_47 : FnI Tryz.prog 47 := ⟨by kernel_rfl⟩
instance fn_49 : FnI Tryz.prog 49 := ⟨by kernel_rfl⟩
instance fn_55 : FnI Tryz.prog 55 := ⟨by kernel_rfl⟩
instance fn_57 : FnI Tryz.prog 57 := ⟨by kernel_rfl⟩
instance fn_58 : FnI Tryz.prog 58 := ⟨by kernel_rfl⟩
instance fn_59 : FnI Tryz.prog 59 := ⟨by kernel_rfl⟩
instance fn_60 : FnI Tryz.prog 60 := ⟨by kernel_rfl⟩
instance fn_61 : FnI Tryz.prog 61 := ⟨by kernel_rfl⟩
instance fn_62 : FnI Tryz.prog 62 := ⟨by kernel_rfl⟩
instance fn_63 : FnI Tryz.prog 63 := ⟨by kernel_rfl⟩
instance fn_64 : FnI Tryz.prog 64 := ⟨by kernel_rfl⟩
instance fn_65 : FnI Tryz.prog 65 := ⟨by kernel_rfl⟩
instance fn_66 : FnI Tryz.prog 66 := ⟨by kernel_rfl⟩
instance fn_67 : FnI Tryz.prog 67 := ⟨by kernel_rfl⟩
instance fn_68 : FnI Tryz.prog 68 := ⟨by kernel_rfl⟩
instance fn_69 : FnI Tryz.prog 69 := ⟨by kernel_rfl⟩
instance fn_70 : FnI Tryz.prog 70 := ⟨by kernel_rfl⟩
instance fn_71 : FnI Tryz.prog 71 := ⟨by kernel_rfl⟩
instance fn_72 : FnI Tryz.prog 72 := ⟨by kernel_rfl⟩
instance fn_73 : FnI Tryz.prog 73 := ⟨by kernel_rfl⟩
instance fn_86 : FnI Tryz.prog 86 := ⟨by kernel_rfl⟩
instance fn_87 : FnI Tryz.prog 87 := ⟨by kernel_rfl⟩
instance fn_88 : FnI Tryz.prog 88 := ⟨by kernel_rfl⟩
instance fn_89 : FnI Tryz.prog 89 := ⟨by kernel_rfl⟩
instance fn_90 : FnI Tryz.prog 90 := ⟨by kernel_rfl⟩
instance fn_91 : FnI Tryz.prog 91 := ⟨by kernel_rfl⟩
instance fn_92 : FnI Tryz.prog 92 := ⟨by kernel_rfl⟩
instance fn_95 : FnI Tryz.prog 95 := ⟨by kernel_rfl⟩
instance fn_96 : FnI Tryz.prog 96 := ⟨by kernel_rfl⟩
instance fn_97 : FnI Tryz.prog 97 := ⟨by kernel_rfl⟩
instance fn_98 : FnI Tryz.prog 98 := ⟨by kernel_rfl⟩
instance fn_100 : FnI Tryz.prog 100 := ⟨by kernel_rfl⟩
instance fn_102 : FnI Tryz.prog 102 := ⟨by kernel_rfl⟩
instance fn_103 : FnI Tryz.prog 103 := ⟨by kernel_rfl⟩
instance fn_105 : FnI Tryz.prog 105 := ⟨by kernel_rfl⟩
instance fn_109 : FnI Tryz.prog 109 := ⟨by kernel_rfl⟩
instance fn_110 : FnI Tryz.prog 110 := ⟨by kernel_rfl⟩
instance fn_111 : FnI Tryz.prog 111 := ⟨by kernel_rfl⟩
instance fn_112 : FnI Tryz.prog 112 := ⟨by kernel_rfl⟩
instance fn_113 : FnI Tryz.prog 113 := ⟨by kernel_rfl⟩
instance fn_114 : FnI Tryz.prog 114 := ⟨by kernel_rfl⟩
instance fn_115 : FnI Tryz.prog 115 := ⟨by kernel_rfl⟩
instance fn_116 : FnI Tryz.prog 116 := ⟨by kernel_rfl⟩
instance fn_117 : FnI Tryz.prog 117 := ⟨by kernel_rfl⟩
instance fn_118 : FnI Tryz.prog 118 := ⟨by kernel_rfl⟩
instance fn_119 : FnI Tryz.prog 119 := ⟨by kernel_rfl⟩
instance fn_120 : FnI Tryz.prog 120 := ⟨by kernel_rfl⟩
instance fn_121 : FnI Tryz.prog 121 := ⟨by kernel_rfl⟩
instance fn_127 : FnI Tryz.prog 127 := ⟨by kernel_rfl⟩
instance fn_128 : FnI Tryz.prog 128 := ⟨by kernel_rfl⟩
instance fn_129 : FnI Tryz.prog 129 := ⟨by kernel_rfl⟩
instance fn_130 : FnI Tryz.prog 130 := ⟨by kernel_rfl⟩
instance fn_131 : FnI Tryz.prog 131 := ⟨by kernel_rfl⟩
instance fn_132 : FnI Tryz.prog 132 := ⟨by kernel_rfl⟩
instance fn_136 : FnI Tryz.prog 136 := ⟨by kernel_rfl⟩
instance fn_137 : FnI Tryz.prog 137 := ⟨by kernel_rfl⟩
instance fn_138 : FnI Tryz.prog 138 := ⟨by kernel_rfl⟩
instance fn_139 : FnI Tryz.prog 139 := ⟨by kernel_rfl⟩
instance fn_140 : FnI Tryz.prog 140 := ⟨by kernel_rfl⟩
instance fn_141 : FnI Tryz.prog 141 := ⟨by kernel_rfl⟩
instance fn_142 : FnI Tryz.prog 142 := ⟨by kernel_rfl⟩
instance fn_143 : FnI Tryz.prog 143 := ⟨by kernel_rfl⟩
instance fn_144 : FnI Tryz.prog 144 := ⟨by kernel_rfl⟩
instance fn_145 : FnI Tryz.prog 145 := ⟨by kernel_rfl⟩
instance fn_146 : FnI Tryz.prog 146 := ⟨by kernel_rfl⟩
instance fn_147 : FnI Tryz.prog 147 := ⟨by kernel_rfl⟩
instance fn_148 : FnI Tryz.prog 148 := ⟨by kernel_rfl⟩
instance fn_149 : FnI Tryz.prog 149 := ⟨by kernel_rfl⟩
instance fn_150 : FnI Tryz.prog 150 := ⟨by kernel_rfl⟩
instance fn_151 : FnI Tryz.prog 151 := ⟨by kernel_rfl⟩
instance fn_152 : FnI Tryz.prog 152 := ⟨by kernel_rfl⟩
instance fn_153 : FnI Tryz.prog 153 := ⟨by kernel_rfl⟩
instance fn_154 : FnI Tryz.prog 154 := ⟨by kernel_rfl⟩
instance fn_155 : FnI Tryz.prog 155 := ⟨by kernel_rfl⟩
instance fn_156 : FnI Tryz.prog 156 := ⟨by kernel_rfl⟩
instance fn_157 : FnI Tryz.prog 157 := ⟨by kernel_rfl⟩
instance fn_158 : FnI Tryz.prog 158 := ⟨by kernel_rfl⟩
instance fn_159 : FnI Tryz.prog 159 := ⟨by kernel_rfl⟩
instance fn_160 : FnI Tryz.prog 160 := ⟨by kernel_rfl⟩
instance fn_161 : FnI Tryz.prog 161 := ⟨by kernel_rfl⟩
instance fn_162 : FnI Tryz.prog 162 := ⟨by kernel_rfl⟩
instance fn_163 : FnI Tryz.prog 163 := ⟨by kernel_rfl⟩
instance fn_164 : FnI Tryz.prog 164 := ⟨by kernel_rfl⟩
instance fn_165 : FnI Tryz.prog 165 := ⟨by kernel_rfl⟩
instance fn_166 : FnI Tryz.prog 166 := ⟨by kernel_rfl⟩
instance fn_167 : FnI Tryz.prog 167 := ⟨by kernel_rfl⟩
instance fn_168 : FnI Tryz.prog 168 := ⟨by kernel_rfl⟩
instance fn_169 : FnI Tryz.prog 169 := ⟨by kernel_rfl⟩
instance fn_170 : FnI Tryz.prog 170 := ⟨by kernel_rfl⟩
instance fn_171 : FnI Tryz.prog 171 := ⟨by kernel_rfl⟩
instance fn_172 : FnI Tryz.prog 172 := ⟨by kernel_rfl⟩
instance fn_173 : FnI Tryz.prog 173 := ⟨by kernel_rfl⟩
instance fn_174 : FnI Tryz.prog 174 := ⟨by kernel_rfl⟩
instance fn_175 : FnI Tryz.prog 175 := ⟨by kernel_rfl⟩
instance fn_176 : FnI Tryz.prog 176 := ⟨by kernel_rfl⟩
instance fn_177 : FnI Tryz.prog 177 := ⟨by kernel_rfl⟩
instance fn_178 : FnI Tryz.prog 178 := ⟨by kernel_rfl⟩
instance uI_4 : UndI Tryz.prog 4 (.bool) := ⟨@Tryz.underlying4⟩
theorem und_4 : Tryz.prog.underlying 4 = some (.bool) := UndI.h
instance uI_9 : UndI Tryz.prog 9 (.string) := ⟨@Tryz.underlying9⟩
theorem und_9 : Tryz.prog.underlying 9 = some (.string) := UndI.h
instance uI_10 : UndI Tryz.prog 10 (.string) := ⟨@Tryz.underlying10⟩
instance uI_11 : UndI Tryz.prog 11 (.string) := ⟨@Tryz.underlying11⟩
instance uI_22 : UndI Tryz.prog 22 (.slice 5) := ⟨@Tryz.underlying22⟩
instance uI_26 : UndI Tryz.prog 26 (.slice 49) := ⟨@Tryz.underlying26⟩
instance uI_29 : UndI Tryz.prog 29 (.slice 2) := ⟨@Tryz.underlying29⟩
theorem und_29 : Tryz.prog.underlying 29 = some (.slice 2) := UndI.h
instance uI_65 : UndI Tryz.prog 65 (.slice 175) := ⟨@Tryz.underlying65⟩
instance uI_111 : UndI Tryz.prog 111 (.slice 114) := ⟨@Tryz.underlying111⟩
theorem und_111 : Tryz.prog.underlying 111 = some (.slice 114) := UndI.h
instance uI_164 : UndI Tryz.prog 164 (.slice 168) := ⟨@Tryz.underlying164⟩
theorem und_164 : Tryz.prog.underlying 164 = some (.slice 168) := UndI.h
instance uI_212 : UndI Tryz.prog 212 (.slice 9) := ⟨@Tryz.underlying212⟩
instance mixI : MixI Tryz.prog := ⟨by kernel_rfl⟩
@[reducible] def cRules (x : M.Rul) : List Ty := [Ty.int x.pits, Ty.int x.seeds, Ty.bool x.stores, Ty.bool x.skip, Ty.bool x.relay, Ty.bool x.feed, Ty.bool x.again, Ty.int x.capture, Ty.int x.slam]
def lRules (xs : List M.Rul) : List Ty := xs.flatMap cRules
theorem lRules_length (xs : List M.Rul) : (lRules xs).length = xs.length * 9 := flat_len cRules 9 (fun _ => rfl) xs
instance : LenL lRules 9 := ⟨lRules_length⟩
set_option maxRecDepth 100000 in
theorem eqs_Rules (a b : M.Rul) (w : World) : (Op.equalIn 10000 25 (.agg #[.int .i64 a.pits, .int .i64 a.seeds, .bool a.stores, .bool a.skip, .bool a.relay, .bool a.feed, .bool a.again, .int .i64 a.capture, .int .i64 a.slam]) (.agg #[.int .i64 b.pits, .int .i64 b.seeds, .bool b.stores, .bool b.skip, .bool b.relay, .bool b.feed, .bool b.again, .int .i64 b.capture, .int .i64 b.slam])).run Tryz.prog w = .ok (decide (a = b)) w := by
  have u2 := Tryz.underlying2
  have u4 := Tryz.underlying4
  have i2 := run_equalIn_int (P := Tryz.prog) (d := 9998) (t := 2) (k := .i64) (k' := .i64) (h := u2)
  have i4 := run_equalIn_bool (P := Tryz.prog) 9998 (t := 4) u4
  rw [show (10000 : Nat) = 9999 + 1 from rfl, run_equalIn_agg w 9999 25 _ _ (by kernel_rfl) (by kernel_rfl)]
  simp only [Program.fieldsOf, Tryz.underlying25]
  go_simp
  by_cases h : a = b
  · subst h; simp
  rw [decide_eq_false h]
  by_cases h0 : a.pits = b.pits
  case neg => rw [if_neg h0]
  rw [if_pos h0]
  by_cases h1 : a.seeds = b.seeds
  case neg => rw [if_neg h1]
  rw [if_pos h1]
  by_cases h2 : a.stores = b.stores
  case neg => rw [if_neg h2]
  rw [if_pos h2]
  by_cases h3 : a.skip = b.skip
  case neg => rw [if_neg h3]
  rw [if_pos h3]
  by_cases h4 : a.relay = b.relay
  case neg => rw [if_neg h4]
  rw [if_pos h4]
  by_cases h5 : a.feed = b.feed
  case neg => rw [if_neg h5]
  rw [if_pos h5]
  by_cases h6 : a.again = b.again
  case neg => rw [if_neg h6]
  rw [if_pos h6]
  by_cases h7 : a.capture = b.capture
  case neg => rw [if_neg h7]
  rw [if_pos h7]
  by_cases h8 : a.slam = b.slam
  case neg => rw [if_neg h8]
  rw [if_pos h8]
  exact absurd (by cases a; cases b; simp_all) h
@[reducible] def cPosition (x : M.Pos) : List Ty := [Ty.ints 2 x.pits, Ty.ints 2 x.stores, Ty.int x.player]
def lPosition (xs : List M.Pos) : List Ty := xs.flatMap cPosition
theorem lPosition_length (xs : List M.Pos) : (lPosition xs).length = xs.length * 3 := flat_len cPosition 3 (fun _ => rfl) xs
instance : LenL lPosition 3 := ⟨lPosition_length⟩
@[reducible] def cSown (x : M.Sw) : List Ty := [Ty.ints 2 x.pits, Ty.ints 2 x.stores, Ty.int x.last, Ty.int x.laps]
def lSown (xs : List M.Sw) : List Ty := xs.flatMap cSown
theorem lSown_length (xs : List M.Sw) : (lSown xs).length = xs.length * 4 := flat_len cSown 4 (fun _ => rfl) xs
instance : LenL lSown 4 := ⟨lSown_length⟩
@[reducible] def csowing (x : M.Sow) : List Ty := [Ty.int x.rules.pits, Ty.int x.rules.seeds, Ty.bool x.rules.stores, Ty.bool x.rules.skip, Ty.bool x.rules.relay, Ty.bool x.rules.feed, Ty.bool x.rules.again, Ty.int x.rules.capture, Ty.int x.rules.slam, Ty.int x.player, Ty.ints 2 x.sown.pits, Ty.ints 2 x.sown.stores, Ty.int x.sown.last, Ty.int x.sown.laps, Ty.ints 2 x.path]
theorem ref_sowing {u : World} {v : Value} {x : M.Sow} (h : (Ty.ref (csowing x)).ok u v) : ∃ b o A10 c10 A11 c11 A14 c14, v = .pointer (some ⟨b, o, none⟩) ∧ RowAt u b o [.int .i64 x.rules.pits, .int .i64 x.rules.seeds, .bool x.rules.stores, .bool x.rules.skip, .bool x.rules.relay, .bool x.rules.feed, .bool x.rules.again, .int .i64 x.rules.capture, .int .i64 x.rules.slam, .int .i64 x.player, .slice A10 x.sown.pits.length c10, .slice A11 x.sown.stores.length c11, .int .i64 x.sown.last, .int .i64 x.sown.laps, .slice A14 x.path.length c14] ∧ (Ty.ints 2 x.sown.pits).ok u (.slice A10 x.sown.pits.length c10) ∧ (Ty.ints 2 x.sown.stores).ok u (.slice A11 x.sown.stores.length c11) ∧ (Ty.ints 2 x.path).ok u (.slice A14 x.path.length c14) ∧ x.sown.pits.length ≤ c10 ∧ c10 ≤ 9223372036854775807 ∧ x.sown.stores.length ≤ c11 ∧ c11 ≤ 9223372036854775807 ∧ x.path.length ≤ c14 ∧ c14 ≤ 9223372036854775807 := by
  obtain ⟨b, o, vs, rfl, h, hr⟩ := h
  obtain ⟨x0, r, rfl, h0, h⟩ := cellsOk_cons h
  obtain ⟨x1, r, rfl, h1, h⟩ := cellsOk_cons h
  obtain ⟨x2, r, rfl, h2, h⟩ := cellsOk_cons h
  obtain ⟨x3, r, rfl, h3, h⟩ := cellsOk_cons h
  obtain ⟨x4, r, rfl, h4, h⟩ := cellsOk_cons h
  obtain ⟨x5, r, rfl, h5, h⟩ := cellsOk_cons h
  obtain ⟨x6, r, rfl, h6, h⟩ := cellsOk_cons h
  obtain ⟨x7, r, rfl, h7, h⟩ := cellsOk_cons h
  obtain ⟨x8, r, rfl, h8, h⟩ := cellsOk_cons h
  obtain ⟨x9, r, rfl, h9, h⟩ := cellsOk_cons h
  obtain ⟨x10, r, rfl, h10, h⟩ := cellsOk_cons h
  obtain ⟨x11, r, rfl, h11, h⟩ := cellsOk_cons h
  obtain ⟨x12, r, rfl, h12, h⟩ := cellsOk_cons h
  obtain ⟨x13, r, rfl, h13, h⟩ := cellsOk_cons h
  obtain ⟨x14, r, rfl, h14, h⟩ := cellsOk_cons h
  obtain rfl := cellsOk_nil h
  obtain rfl : x0 = .int .i64 x.rules.pits := h0
  obtain rfl : x1 = .int .i64 x.rules.seeds := h1
  obtain rfl : x2 = .bool x.rules.stores := h2
  obtain rfl : x3 = .bool x.rules.skip := h3
  obtain rfl : x4 = .bool x.rules.relay := h4
  obtain rfl : x5 = .bool x.rules.feed := h5
  obtain rfl : x6 = .bool x.rules.again := h6
  obtain rfl : x7 = .int .i64 x.rules.capture := h7
  obtain rfl : x8 = .int .i64 x.rules.slam := h8
  obtain rfl : x9 = .int .i64 x.player := h9
  obtain ⟨A10, c10, rfl, b10, d10⟩ := sl_form h10
  obtain ⟨A11, c11, rfl, b11, d11⟩ := sl_form h11
  obtain rfl : x12 = .int .i64 x.sown.last := h12
  obtain rfl : x13 = .int .i64 x.sown.laps := h13
  obtain ⟨A14, c14, rfl, b14, d14⟩ := sl_form h14
  exact ⟨b, o, A10, c10, A11, c11, A14, c14, rfl, hr, h10, h11, h14, b10, d10, b11, d11, b14, d14⟩
def lsowing (xs : List M.Sow) : List Ty := xs.flatMap csowing
theorem lsowing_length (xs : List M.Sow) : (lsowing xs).length = xs.length * 15 := flat_len csowing 15 (fun _ => rfl) xs
instance : LenL lsowing 15 := ⟨lsowing_length⟩
@[reducible] def cResult (x : M.Res) : List Ty := [Ty.int x.move, Ty.int x.gain, Ty.bool x.again, Ty.ints 2 x.next.pits, Ty.ints 2 x.next.stores, Ty.int x.next.player]
def lResult (xs : List M.Res) : List Ty := xs.flatMap cResult
theorem lResult_length (xs : List M.Res) : (lResult xs).length = xs.length * 6 := flat_len cResult 6 (fun _ => rfl) xs
instance : LenL lResult 6 := ⟨lResult_length⟩
theorem elem_Result {u : World} {e c i : Nat} {A : Option Addr} {xs : List M.Res} {x : M.Res} (h : (Ty.sl e 6 xs.length (lResult xs)).ok u (.slice A xs.length c)) (hi : xs[i]? = some x) : ∃ b o A3 c3 A4 c4, elemA 6 (.slice A xs.length c) i = some ⟨b, o, none⟩ ∧ RowAt u b o [.int .i64 x.move, .int .i64 x.gain, .bool x.again, .slice A3 x.next.pits.length c3, .slice A4 x.next.stores.length c4, .int .i64 x.next.player] ∧ (Ty.ints 2 x.next.pits).ok u (.slice A3 x.next.pits.length c3) ∧ (Ty.ints 2 x.next.stores).ok u (.slice A4 x.next.stores.length c4) ∧ x.next.pits.length ≤ c3 ∧ c3 ≤ 9223372036854775807 ∧ x.next.stores.length ≤ c4 ∧ c4 ≤ 9223372036854775807 := by
  obtain ⟨b, o, vs, he, h, hr⟩ := sl_elem h (List.getElem?_eq_some_iff.1 hi).1 rfl
  have e := drop_flat cResult 6 (fun _ => rfl) xs i x hi
  unfold lResult at h
  rw [e] at h
  obtain ⟨x0, r, rfl, h0, h⟩ := cellsOk_cons h
  obtain ⟨x1, r, rfl, h1, h⟩ := cellsOk_cons h
  obtain ⟨x2, r, rfl, h2, h⟩ := cellsOk_cons h
  obtain ⟨x3, r, rfl, h3, h⟩ := cellsOk_cons h
  obtain ⟨x4, r, rfl, h4, h⟩ := cellsOk_cons h
  obtain ⟨x5, r, rfl, h5, h⟩ := cellsOk_cons h
  obtain rfl := cellsOk_nil h
  obtain rfl : x0 = .int .i64 x.move := h0
  obtain rfl : x1 = .int .i64 x.gain := h1
  obtain rfl : x2 = .bool x.again := h2
  obtain ⟨A3, c3, rfl, b3, d3⟩ := sl_form h3
  obtain ⟨A4, c4, rfl, b4, d4⟩ := sl_form h4
  obtain rfl : x5 = .int .i64 x.next.player := h5
  exact ⟨b, o, A3, c3, A4, c4, he, hr, h3, h4, b3, d3, b4, d4⟩
theorem elemv_Result {w : World} {i : Nat} {xs : List M.Res} {x : M.Res} {vs : List Value} (h : cellsOk w (lResult xs) vs) (hi : xs[i]? = some x) : ∃ A3 c3 A4 c4, (vs.drop (0 + i * 6)).take 6 = [.int .i64 x.move, .int .i64 x.gain, .bool x.again, .slice A3 x.next.pits.length c3, .slice A4 x.next.stores.length c4, .int .i64 x.next.player] ∧ x.next.pits.length ≤ c3 ∧ c3 ≤ 9223372036854775807 ∧ x.next.stores.length ≤ c4 ∧ c4 ≤ 9223372036854775807 := by
  rw [Nat.zero_add]
  have h := cellsOk.take 6 (cellsOk.drop (i * 6) h)
  rw [lResult, drop_flat cResult 6 (fun _ => rfl) xs i x hi] at h
  generalize (vs.drop (i * 6)).take 6 = vs at h ⊢
  obtain ⟨x0, r, rfl, h0, h⟩ := cellsOk_cons h
  obtain ⟨x1, r, rfl, h1, h⟩ := cellsOk_cons h
  obtain ⟨x2, r, rfl, h2, h⟩ := cellsOk_cons h
  obtain ⟨x3, r, rfl, h3, h⟩ := cellsOk_cons h
  obtain ⟨x4, r, rfl, h4, h⟩ := cellsOk_cons h
  obtain ⟨x5, r, rfl, h5, h⟩ := cellsOk_cons h
  obtain rfl := cellsOk_nil h
  obtain rfl : x0 = .int .i64 x.move := h0
  obtain rfl : x1 = .int .i64 x.gain := h1
  obtain rfl : x2 = .bool x.again := h2
  obtain ⟨A3, c3, rfl, b3, d3⟩ := sl_form h3
  obtain ⟨A4, c4, rfl, b4, d4⟩ := sl_form h4
  obtain rfl : x5 = .int .i64 x.next.player := h5
  exact ⟨A3, c3, A4, c4, rfl, b3, d3, b4, d4⟩
theorem lResult_snoc (xs : List M.Res) (x : M.Res) : lResult xs ++ cResult x = lResult (xs ++ [x]) := by simp [lResult]
theorem pack_Result {w : World} {x : M.Res} {v1 v2 : Value} {f1 f2 : List Nat} (h1 : (Ty.ints 2 x.next.pits).own w v1 f1) (h2 : (Ty.ints 2 x.next.stores).own w v2 f2) : cellsOwn w (cResult x) [.int .i64 x.move, .int .i64 x.gain, .bool x.again, v1, v2, .int .i64 x.next.player] (f1 ++ f2) :=
  ⟨[], f1 ++ f2, rfl, ⟨rfl, rfl⟩, ⟨[], f1 ++ f2, rfl, ⟨rfl, rfl⟩, ⟨[], f1 ++ f2, rfl, ⟨rfl, rfl⟩, ⟨f1, f2, rfl, h1, ⟨f2, [], (List.append_nil _).symm, h2, ⟨[], [], rfl, ⟨rfl, rfl⟩, rfl⟩⟩⟩⟩⟩⟩
@[reducible] def cResultL (x : M.Res) : List Ty := [Ty.int x.move, Ty.int x.gain, Ty.bool x.again, Ty.any, Ty.any, Ty.any]
def lResultL (xs : List M.Res) : List Ty := xs.flatMap cResultL
theorem lResultL_length (xs : List M.Res) : (lResultL xs).length = xs.length * 6 := flat_len cResultL 6 (fun _ => rfl) xs
instance : LenL lResultL 6 := ⟨lResultL_length⟩
@[reducible] def cOption (x : M.Opt) : List Ty := [Ty.int x.move, Ty.int x.value]
def lOption (xs : List M.Opt) : List Ty := xs.flatMap cOption
theorem lOption_length (xs : List M.Opt) : (lOption xs).length = xs.length * 2 := flat_len cOption 2 (fun _ => rfl) xs
instance : LenL lOption 2 := ⟨lOption_length⟩
theorem elem_Option {u : World} {e c i : Nat} {A : Option Addr} {xs : List M.Opt} {x : M.Opt} (h : (Ty.sl e 2 xs.length (lOption xs)).ok u (.slice A xs.length c)) (hi : xs[i]? = some x) : ∃ b o, elemA 2 (.slice A xs.length c) i = some ⟨b, o, none⟩ ∧ RowAt u b o [.int .i64 x.move, .int .i64 x.value] := by
  obtain ⟨b, o, vs, he, h, hr⟩ := sl_elem h (List.getElem?_eq_some_iff.1 hi).1 rfl
  have e := drop_flat cOption 2 (fun _ => rfl) xs i x hi
  unfold lOption at h
  rw [e] at h
  obtain ⟨x0, r, rfl, h0, h⟩ := cellsOk_cons h
  obtain ⟨x1, r, rfl, h1, h⟩ := cellsOk_cons h
  obtain rfl := cellsOk_nil h
  obtain rfl : x0 = .int .i64 x.move := h0
  obtain rfl : x1 = .int .i64 x.value := h1
  exact ⟨b, o, he, hr⟩
theorem lOption_snoc (xs : List M.Opt) (x : M.Opt) : lOption xs ++ cOption x = lOption (xs ++ [x]) := by simp [lOption]
@[reducible] def cPuzzle (x : M.Puz) : List Ty := [Ty.int x.rules.pits, Ty.int x.rules.seeds, Ty.bool x.rules.stores, Ty.bool x.rules.skip, Ty.bool x.rules.relay, Ty.bool x.rules.feed, Ty.bool x.rules.again, Ty.int x.rules.capture, Ty.int x.rules.slam, Ty.ints 2 x.position.pits, Ty.ints 2 x.position.stores, Ty.int x.position.player, Ty.int x.depth, Ty.int x.move, Ty.int x.value, Ty.int x.margin]
def lPuzzle (xs : List M.Puz) : List Ty := xs.flatMap cPuzzle
theorem lPuzzle_length (xs : List M.Puz) : (lPuzzle xs).length = xs.length * 16 := flat_len cPuzzle 16 (fun _ => rfl) xs
instance : LenL lPuzzle 16 := ⟨lPuzzle_length⟩
@[reducible] def cSlot (x : M.Slo) : List Ty := [Ty.bool x.used, Ty.ints 2 x.pits, Ty.int x.player, Ty.int x.depth, Ty.int x.value, Ty.int x.bound]
def lSlot (xs : List M.Slo) : List Ty := xs.flatMap cSlot
theorem lSlot_length (xs : List M.Slo) : (lSlot xs).length = xs.length * 6 := flat_len cSlot 6 (fun _ => rfl) xs
instance : LenL lSlot 6 := ⟨lSlot_length⟩
@[reducible] def cSlotL (x : M.Slo) : List Ty := [Ty.bool x.used, Ty.any, Ty.int x.player, Ty.int x.depth, Ty.int x.value, Ty.int x.bound]
def lSlotL (xs : List M.Slo) : List Ty := xs.flatMap cSlotL
theorem lSlotL_length (xs : List M.Slo) : (lSlotL xs).length = xs.length * 6 := flat_len cSlotL 6 (fun _ => rfl) xs
instance : LenL lSlotL 6 := ⟨lSlotL_length⟩
@[reducible] def cMemory (x : M.Mem) : List Ty := [Ty.int x.rules.pits, Ty.int x.rules.seeds, Ty.bool x.rules.stores, Ty.bool x.rules.skip, Ty.bool x.rules.relay, Ty.bool x.rules.feed, Ty.bool x.rules.again, Ty.int x.rules.capture, Ty.int x.rules.slam, Ty.sl 49 6 x.slots.length (lSlot x.slots)]
def lMemory (xs : List M.Mem) : List Ty := xs.flatMap cMemory
theorem lMemory_length (xs : List M.Mem) : (lMemory xs).length = xs.length * 10 := flat_len cMemory 10 (fun _ => rfl) xs
instance : LenL lMemory 10 := ⟨lMemory_length⟩
@[reducible] def cvisitor (x : M.Vst) : List Ty := [Ty.int x.memory.rules.pits, Ty.int x.memory.rules.seeds, Ty.bool x.memory.rules.stores, Ty.bool x.memory.rules.skip, Ty.bool x.memory.rules.relay, Ty.bool x.memory.rules.feed, Ty.bool x.memory.rules.again, Ty.int x.memory.rules.capture, Ty.int x.memory.rules.slam, Ty.sl 49 6 x.memory.slots.length (lSlot x.memory.slots), Ty.int x.hits]
def lvisitor (xs : List M.Vst) : List Ty := xs.flatMap cvisitor
theorem lvisitor_length (xs : List M.Vst) : (lvisitor xs).length = xs.length * 11 := flat_len cvisitor 11 (fun _ => rfl) xs
instance : LenL lvisitor 11 := ⟨lvisitor_length⟩
@[reducible] def cl16S (x : M.Vst) : List Ty := [Ty.int x.memory.rules.pits, Ty.int x.memory.rules.seeds, Ty.bool x.memory.rules.stores, Ty.bool x.memory.rules.skip, Ty.bool x.memory.rules.relay, Ty.bool x.memory.rules.feed, Ty.bool x.memory.rules.again, Ty.int x.memory.rules.capture, Ty.int x.memory.rules.slam, Ty.sl 49 6 x.memory.slots.length (lSlot x.memory.slots), Ty.int x.hits]
def ll16S (xs : List M.Vst) : List Ty := xs.flatMap cl16S
theorem ll16S_length (xs : List M.Vst) : (ll16S xs).length = xs.length * 11 := flat_len cl16S 11 (fun _ => rfl) xs
instance : LenL ll16S 11 := ⟨ll16S_length⟩
@[reducible] def cPositionL (x : M.Pos) : List Ty := [Ty.rx 2 x.pits, Ty.ints 2 x.stores, Ty.int x.player]
def lPositionL (xs : List M.Pos) : List Ty := xs.flatMap cPositionL
theorem lPositionL_length (xs : List M.Pos) : (lPositionL xs).length = xs.length * 3 := flat_len cPositionL 3 (fun _ => rfl) xs
instance : LenL lPositionL 3 := ⟨lPositionL_length⟩
open Go.RowKit Go.ChangeShapes Go.WideShapes Go.ChangeAt
theorem cell_of {w : World} {b o : Nat} {x : Value} (h : w.cell? ⟨b, o, none⟩ = some x) : Cell w b o x := by
  unfold World.cell? at h
  split at h
  · rename_i c t f hb
    exact ⟨c, t, f, hb, by simpa using h⟩
  all_goals simp at h
section
variable {H : Type} {enc : TypeId × Value → H} {w : World} {spare : Nat → Bool} {held : Bool} {fuel : Nat} {x : DataW H × List MemPlace} {cs : List Value}
end
section
variable {H : Type} {enc : TypeId × Value → H} {w : World} {spare : Nat → Bool} {held : Bool} {fuel : Nat} {x : DataW H × List MemPlace} {cs : List Value}
theorem byte_wf {n : Int} (h : (Lit.int .u8 n).wf = true) : 0 ≤ n ∧ n ≤ 255 := by
  simp only [Lit.wf, Bool.and_eq_true, decide_eq_true_eq] at h
  first | exact h | (obtain ⟨a, b⟩ := h; constructor <;> simp_all [IntKind.min, IntKind.max] <;> omega)
theorem bytes_ok (w : World) : ∀ (l : List Int), (∀ n ∈ l, 0 ≤ n ∧ n ≤ 255) → cellsOk w (List.replicate l.length Ty.byte) (l.map (fun n => .int .u8 n))
  | [], _ => trivial
  | n :: l, h => ⟨⟨n, rfl, h n (by simp)⟩, bytes_ok w l (fun m hm => h m (by simp [hm]))⟩
theorem rd_bytes {P : Program} {t e : TypeId} (ht : P.underlying t = some (.slice e)) (he : P.underlying e = some (.int .u8)) (hc : P.cellsOf e = 1) (h : DataW.trod enc P w 0 spare held fuel t cs = some x) : ∃ n : Nat, cellsOk w [Ty.bytes e n] cs := by
  rcases open_ints ht he hc h with ⟨rfl, _⟩ | ⟨a, len, cap, zs, rfl, _, hl, hm, hz, _, hcell, hwf⟩
  · exact ⟨0, nil_ok, trivial⟩
  · have hlz : len ≤ zs.length := by rw [hz]; split <;> omega
    have hlen : (zs.take len).length = len := by simp; omega
    refine ⟨len, ⟨by simp, some a, cap, (zs.take len).map (fun n => .int .u8 n), rfl, hl, hm, ?_, fun hp => ?_⟩, trivial⟩
    · have := bytes_ok w (zs.take len) (fun n hn => byte_wf (hwf n (List.mem_of_mem_take hn)))
      rwa [hlen] at this
    have hp : 0 < len := by simpa using hp
    obtain ⟨b, off, spot⟩ := a
    have hspot : spot = none := by simpa [Addr.add] using World.cell?_spot (hcell 0 (by omega))
    subst hspot
    refine ⟨b, off, rfl, fun j v hj => ?_⟩
    simp only [List.getElem?_map, Option.map_eq_some_iff] at hj
    obtain ⟨n, hn, rfl⟩ := hj
    rw [List.getElem?_take] at hn
    split at hn
    · rename_i hjl
      have := hcell j (by omega)
      rw [addr_add] at this
      have e : zs.getD j 0 = n := by simp [List.getD, hn]
      rw [e] at this
      exact cell_of this
    · simp at hn
end
section
variable {H : Type} {enc : TypeId × Value → H} {w : World} {spare : Nat → Bool} {held : Bool} {fuel : Nat} {x : DataW H × List MemPlace} {cs : List Value}
end
end Go.Proofs.YtmgnckfhghibeaaGreat
namespace Go.Proofs.YtmgnckfhghibeaaGreat.M
section
variable {α : Type} (f : Int → α → α) (sz : α → Int)
variable (hf : Int → α → Int)
end
section
variable {α : Type}
end
def hQ (k : Int) (p : Pos) : Int := if held p.pits k < 0 then -1 else if held p.stores (held p.pits k) < 0 then -1 else if p.player ≠ held p.stores (held p.pits k) then -1 else held p.stores (held p.pits k) + 1
def stdNames : List (List UInt8) := [[107, 97, 108, 97, 104], [109, 105, 110, 105], [111, 119, 97, 114, 101], [114, 101, 108, 97, 121]]
def cutG (g : Gam) (n : Nat) : Gam := ⟨g.rules, g.start, g.moves.take n, (playedP g).getD n Pos.zero, -1⟩
theorem cutG_now {g : Gam} {n : Nat} {y : Pos} (h : (playedP g)[n]? = some y) : (cutG g n).now = y := by simp [cutG, List.getD, h]
def undo (g : Gam) : Gam × Int := if okG g = true then (if g.moves.length = 0 ∨ 0 ≤ g.resigned then (Gam.zero, 6) else (cutG g ((g.moves.length : Int) - 1).toNat, 0)) else (Gam.zero, 1)
theorem undo_0 {g : Gam} (h : okG g = true) (h2 : ¬ (g.moves.length = 0 ∨ 0 ≤ g.resigned)) : undo g = (cutG g ((g.moves.length : Int) - 1).toNat, 0) := by unfold undo; rw [if_pos h, if_neg h2]
def Cut (g : Gam) (k : Nat) : Prop := ∀ j, j < k → endOf (cutG g j) = 0
theorem Cut.zero (g : Gam) : Cut g 0 := fun j h => by omega
theorem Cut.step {g : Gam} {k : Nat} (h : Cut g k) (h2 : endOf (cutG g k) = 0) : Cut g (k + 1) := fun j hj => by
  by_cases e : j = k
  · subst e; exact h2
  · exact h j (by omega)
def startP (r : Rul) : Pos := ⟨List.replicate (2 * r.pits).toNat r.seeds, [0, 0], 0⟩
theorem mul01 {a n : Int} (h0 : 0 ≤ a) (h1 : a = 0 ∨ a < 2) (n0 : 0 ≤ n) (n8 : n ≤ 8) : 0 ≤ a * n ∧ a * n ≤ n ∧ (a + 1) * n = a * n + n := by
  have h : a = 0 ∨ a = 1 := by omega
  rcases h with rfl | rfl <;> simp <;> omega
def legal (r : Rul) (p : Pos) : List Int := if okP r p = true then (results r p).map (·.move) else []
theorem legal_yes {r : Rul} {p : Pos} (h : okP r p = true) : legal r p = (results r p).map (·.move) := by unfold legal; rw [if_pos h]
theorem legal_no {r : Rul} {p : Pos} (h : okP r p = false) : legal r p = [] := by unfold legal; rw [if_neg (by simp [h])]
theorem moves_step {l : List Res} {k : Nat} {y : Res} (h : l[k]? = some y) : (l.map (·.move)).take (k + 1) = (l.map (·.move)).take k ++ [y.move] := by
  rw [List.take_add_one, List.getElem?_map, h]; rfl
end Go.Proofs.YtmgnckfhghibeaaGreat.M

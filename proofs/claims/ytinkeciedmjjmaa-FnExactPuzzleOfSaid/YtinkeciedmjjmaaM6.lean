/- Plain mathematics of searches. -/
import Derived.Test.YtinkeciedmjjmaaM5
set_option linter.unusedSimpArgs false
set_option linter.unusedVariables false
namespace Go.Proofs.Ytinkeciedmjjmaa.M

structure Opt where
  move : Int
  value : Int
  deriving DecidableEq
structure Puz where
  rules : Rul
  position : Pos
  depth : Int
  move : Int
  value : Int
  margin : Int
  deriving DecidableEq
def Opt.zero : Opt := ⟨0, 0⟩
def Puz.zero : Puz := ⟨Rul.zero, Pos.zero, 0, 0, 0, 0⟩
theorem puz_ext {a b : Puz} (h1 : a.rules = b.rules) (h2 : a.position = b.position) (h3 : a.depth = b.depth) (h4 : a.move = b.move) (h5 : a.value = b.value) (h6 : a.margin = b.margin) : a = b := by cases a; cases b; simp_all

def endV (r : Rul) (p : Pos) : Int := side r p.pits p.player - side r p.pits (1 - p.player)
def moveV (x : Res) (v : Int) : Int := if x.again = true then x.gain + v else x.gain - v
theorem moveV_y {x : Res} {v : Int} (h : x.again = true) : moveV x v = x.gain + v := by unfold moveV; rw [if_pos h]
theorem moveV_n {x : Res} {v : Int} (h : x.again = false) : moveV x v = x.gain - v := by unfold moveV; rw [if_neg (by simp [h])]

/-! ### the greatest one of some numbers -/
def bestF (fst : Bool) (b : Int) : List Int → Int
  | [] => b
  | v :: l => bestF false (if fst = true ∨ b < v then v else b) l
def best (l : List Int) : Int := bestF true 0 l
theorem bestF_bd {B : Int} : ∀ (l : List Int) (fst : Bool) (b : Int), -B ≤ b → b ≤ B → (∀ v ∈ l, -B ≤ v ∧ v ≤ B) → -B ≤ bestF fst b l ∧ bestF fst b l ≤ B
  | [], _, _, h1, h2, _ => ⟨h1, h2⟩
  | v :: l, fst, b, h1, h2, h => by
    have hv := h v (by simp)
    rw [bestF]
    refine bestF_bd l false _ ?_ ?_ (fun x hx => h x (by simp [hx]))
    · split <;> omega
    · split <;> omega

/-! ### results -/
theorem results_fact {r : Rul} {p : Pos} {x : Res} (h : x ∈ results r p) : ∃ move : Int, (make r p move).2 = 0 ∧ x = (make r p move).1 := by
  obtain ⟨m, _, h2, h3⟩ := resultsTo_mem.1 h
  exact ⟨_, h2, h3⟩
theorem results_get0 {r : Rul} {p : Pos} {x : Res} {k : Nat} (h : (results r p)[k]? = some x) : x ∈ results r p := List.mem_of_getElem? h
theorem results_ok {r : Rul} {p : Pos} {x : Res} (h : x ∈ results r p) : okP r x.next = true := by
  obtain ⟨m, h2, rfl⟩ := results_fact h
  exact (make_ok h2).2.2.2.1
theorem make_gain {r : Rul} {p : Pos} {move : Int} (h : (make r p move).2 = 0) : -96 ≤ (make r p move).1.gain ∧ (make r p move).1.gain ≤ 96 := by
  have h1 := make_code (r := r) (p := p) (move := move)
  rw [h] at h1
  obtain ⟨hok, _, _, hG⟩ := done_good h1.symm
  rw [make_yes h1.symm]
  have a1 := hG.store p.player
  have a2 := (Good.of_ok hok).store p.player
  show -96 ≤ getI _ _ - getI _ _ ∧ getI _ _ - getI _ _ ≤ 96
  omega
theorem results_gain {r : Rul} {p : Pos} {x : Res} (h : x ∈ results r p) : -96 ≤ x.gain ∧ x.gain ≤ 96 := by
  obtain ⟨m, h2, rfl⟩ := results_fact h
  exact make_gain h2
theorem results_8 {r : Rul} {p : Pos} (h : okP r p = true) : (results r p).length ≤ 8 := by
  have h1 := resultsTo_len (r := r) (p := p) r.pits.toNat
  have h2 := okP_bd h
  unfold results; omega

/-! ### values -/
def val (r : Rul) : Nat → Pos → Int
  | 0, p => if (results r p).length = 0 then endV r p else 0
  | d + 1, p => if (results r p).length = 0 then endV r p else best ((results r p).map fun x => moveV x (val r d x.next))
theorem val_end {r : Rul} {d : Nat} {p : Pos} (h : (results r p).length = 0) : val r d p = endV r p := by
  cases d <;> rw [val, if_pos h]
theorem val_0 {r : Rul} {p : Pos} (h : (results r p).length ≠ 0) : val r 0 p = 0 := by rw [val, if_neg h]
theorem val_s {r : Rul} {d : Nat} {p : Pos} (h : (results r p).length ≠ 0) : val r (d + 1) p = best ((results r p).map fun x => moveV x (val r d x.next)) := by rw [val, if_neg h]
theorem endV_bd {r : Rul} {p : Pos} (h : okP r p = true) : -768 ≤ endV r p ∧ endV r p ≤ 768 := by
  obtain ⟨g1, g2, g3, g4, g5, g6, g7⟩ := okP_bd h
  have a := side_bd g5 g2 p.player
  have b := side_bd g5 g2 (1 - p.player)
  unfold endV; omega
theorem moveV_bd {x : Res} {v B : Int} (h1 : -96 ≤ x.gain ∧ x.gain ≤ 96) (h2 : -B ≤ v ∧ v ≤ B) : -(B + 96) ≤ moveV x v ∧ moveV x v ≤ B + 96 := by
  unfold moveV; split <;> omega
theorem val_bd {r : Rul} : ∀ (d : Nat) (p : Pos), okP r p = true → -(768 + 96 * (d : Int)) ≤ val r d p ∧ val r d p ≤ 768 + 96 * (d : Int)
  | 0, p, h => by
    have := endV_bd h
    rw [val]; split <;> omega
  | d + 1, p, h => by
    have := endV_bd h
    rw [val]; split
    · omega
    refine bestF_bd _ _ _ (by omega) (by omega) (fun v hv => ?_)
    obtain ⟨x, hx, rfl⟩ := List.mem_map.1 hv
    have h1 := val_bd d x.next (results_ok hx)
    have h2 := moveV_bd (results_gain hx) h1
    omega

def vals (r : Rul) (d : Nat) (p : Pos) : List Int := (results r p).map fun x => moveV x (val r d x.next)
theorem vals_len (r : Rul) (d : Nat) (p : Pos) : (vals r d p).length = (results r p).length := by simp [vals]
theorem vals_get {r : Rul} {d : Nat} {p : Pos} {k : Nat} {y : Res} (h : (results r p)[k]? = some y) : (vals r d p)[k]? = some (moveV y (val r d y.next)) := by unfold vals; rw [List.getElem?_map, h]; rfl
theorem val_d {r : Rul} {depth : Int} {p : Pos} (h : (results r p).length ≠ 0) (hd : 1 ≤ depth) : val r depth.toNat p = best (vals r (depth - 1).toNat p) := by
  rw [show depth.toNat = (depth - 1).toNat + 1 by omega, val_s h]; rfl
theorem drop_some {α : Type} {l : List α} {k : Nat} {y : α} (h : l[k]? = some y) : l.drop k = y :: l.drop (k + 1) := by
  obtain ⟨hk, rfl⟩ := List.getElem?_eq_some_iff.1 h
  exact List.drop_eq_getElem_cons hk
theorem bestF_y {l : List Int} {k : Nat} {v b X : Int} (h : bestF (decide (k = 0)) b (l.drop k) = X) (hv : l[k]? = some v) (hc : k = 0 ∨ b < v) : bestF (decide (k + 1 = 0)) v (l.drop (k + 1)) = X := by
  rw [drop_some hv, bestF, if_pos (by simpa using hc)] at h
  simpa using h
theorem bestF_n {l : List Int} {k : Nat} {v b X : Int} (h : bestF (decide (k = 0)) b (l.drop k) = X) (hv : l[k]? = some v) (hc : ¬ (k = 0 ∨ b < v)) : bestF (decide (k + 1 = 0)) b (l.drop (k + 1)) = X := by
  rw [drop_some hv, bestF, if_neg (by simpa using hc)] at h
  simpa using h
theorem bestF_e {l : List Int} {k : Nat} {c : Bool} {b X : Int} (h : bestF c b (l.drop k) = X) (hk : l.length ≤ k) : X = b := by
  rw [List.drop_eq_nil_of_le hk] at h; exact h.symm

/-! ### sizes -/
def size (r : Rul) : Nat → Pos → Int
  | 0, _ => 1
  | d + 1, p => 1 + isum ((results r p).map fun x => size r d x.next)
def szgo (f : Pos → Int) : Int → List Res → Int
  | s, [] => s
  | s, x :: l => if 3000 < s + f x.next then s + f x.next else szgo f (s + f x.next) l
def sizeT (r : Rul) : Nat → Pos → Int
  | 0, _ => 1
  | d + 1, p => szgo (sizeT r d) 1 (results r p)
theorem size_pos (r : Rul) : ∀ (d : Nat) (p : Pos), 1 ≤ size r d p
  | 0, _ => by rw [size]; omega
  | d + 1, p => by
    rw [size]
    have := nn_isum (l := (results r p).map fun x => size r d x.next) (fun v hv => by
      obtain ⟨x, _, rfl⟩ := List.mem_map.1 hv
      have := size_pos r d x.next; omega)
    omega
theorem szgo_bd {f : Pos → Int} {B : Int} (h : ∀ p, 1 ≤ f p ∧ f p ≤ B) : ∀ (l : List Res) (s : Int), 1 ≤ s → s ≤ 3000 → 1 ≤ szgo f s l ∧ szgo f s l ≤ 3000 + B
  | [], s, h1, h2 => by have := h Pos.zero; rw [szgo]; omega
  | x :: l, s, h1, h2 => by
    have h3 := h x.next
    rw [szgo]; split
    · omega
    · exact szgo_bd h l _ (by omega) (by omega)
theorem sizeT_bd (r : Rul) : ∀ (d : Nat) (p : Pos), 1 ≤ sizeT r d p ∧ sizeT r d p ≤ 3001 * (d + 1 : Nat)
  | 0, _ => by rw [sizeT]; omega
  | d + 1, p => by
    rw [sizeT]
    have := szgo_bd (sizeT_bd r d) (results r p) 1 (by omega) (by omega)
    omega
theorem szgo_eq {f g : Pos → Int} (hg : ∀ p, 1 ≤ g p) (h : ∀ p, (f p ≤ 3000 → f p = g p) ∧ (3000 < f p → 3000 < g p)) : ∀ (l : List Res) (s : Int), 0 ≤ s → s ≤ 3000 →
    (szgo f s l ≤ 3000 → szgo f s l = s + isum (l.map fun x => g x.next)) ∧ (3000 < szgo f s l → 3000 < s + isum (l.map fun x => g x.next))
  | [], s, h0, h1 => by simp only [szgo, List.map_nil]; rw [isum_nil]; omega
  | x :: l, s, h0, h1 => by
    have h2 := h x.next
    have h3 := hg x.next
    have h4 : 0 ≤ isum (l.map fun x => g x.next) := nn_isum (fun v hv => by
      obtain ⟨y, _, rfl⟩ := List.mem_map.1 hv
      have := hg y.next; omega)
    rw [szgo, List.map_cons, isum_cons]
    split
    · rename_i hb
      refine ⟨fun h => by omega, fun _ => ?_⟩
      by_cases h5 : f x.next ≤ 3000
      · rw [h2.1 h5] at hb; omega
      · have := h2.2 (by omega); omega
    · rename_i hb
      have h5 : f x.next ≤ 3000 := by
        by_cases h5 : f x.next ≤ 3000
        · exact h5
        · have := h2.2 (by omega)
          omega
      have h6 := h2.1 h5
      rw [h6] at hb ⊢
      have := szgo_eq hg h l (s + g x.next) (by omega) (by omega)
      rw [Int.add_assoc] at this
      exact this
theorem sizeT_eq (r : Rul) : ∀ (d : Nat) (p : Pos), (sizeT r d p ≤ 3000 → sizeT r d p = size r d p) ∧ (3000 < sizeT r d p → 3000 < size r d p)
  | 0, p => by rw [sizeT, size]; exact ⟨fun _ => rfl, fun h => h⟩
  | d + 1, p => by
    rw [sizeT, size]
    exact szgo_eq (size_pos r d) (sizeT_eq r d) _ 1 (by omega) (by omega)
theorem sizeT_big (r : Rul) (d : Nat) (p : Pos) : 3000 < sizeT r d p ↔ 3000 < size r d p := by
  have h := sizeT_eq r d p
  constructor
  · exact h.2
  · intro h2
    by_cases h3 : sizeT r d p ≤ 3000
    · rw [← h.1 h3] at h2; omega
    · omega
theorem isum_mem {l : List Int} {v : Int} (h : nn l) (hv : v ∈ l) : v ≤ isum l := by
  obtain ⟨k, hk, rfl⟩ := List.getElem_of_mem hv
  rw [← nth_eq hk]; exact nth_le_isum h k
theorem size_sub {r : Rul} {d : Nat} {p : Pos} {x : Res} (h : x ∈ results r p) : size r d x.next ≤ size r (d + 1) p := by
  have := isum_mem (l := (results r p).map fun x => size r d x.next) (v := size r d x.next) (fun v hv => by
      obtain ⟨x, _, rfl⟩ := List.mem_map.1 hv
      have := size_pos r d x.next; omega) (List.mem_map.2 ⟨x, h, rfl⟩)
  rw [size]; omega

theorem szgo_y {f : Pos → Int} {s X : Int} {l : List Res} {k : Nat} {y : Res} (h : szgo f s (l.drop k) = X) (hy : l[k]? = some y) (hc : 3000 < s + f y.next) : X = s + f y.next := by
  rw [drop_some hy, szgo, if_pos hc] at h; exact h.symm
theorem szgo_n {f : Pos → Int} {s X : Int} {l : List Res} {k : Nat} {y : Res} (h : szgo f s (l.drop k) = X) (hy : l[k]? = some y) (hc : ¬ 3000 < s + f y.next) : szgo f (s + f y.next) (l.drop (k + 1)) = X := by
  rw [drop_some hy, szgo, if_neg hc] at h; exact h
theorem szgo_e {f : Pos → Int} {s X : Int} {l : List Res} {k : Nat} (h : szgo f s (l.drop k) = X) (hk : l.length ≤ k) : X = s := by
  rw [List.drop_eq_nil_of_le hk] at h; exact h.symm
theorem sizeT_d {r : Rul} {depth : Int} {p : Pos} (hd : 1 ≤ depth) : sizeT r depth.toNat p = szgo (sizeT r (depth - 1).toNat) 1 (results r p) := by
  rw [show depth.toNat = (depth - 1).toNat + 1 by omega, sizeT]

/-! ### the reference's search -/
def svL (f : Pos → Int → Int × Int) : Bool → Int → Int → List Res → Int × Int
  | _, b, s, [] => (b, s)
  | fst, b, s, x :: l => svL f false (if fst = true ∨ b < moveV x (f x.next s).1 then moveV x (f x.next s).1 else b) (f x.next s).2 l
def sv (r : Rul) : Nat → Pos → Int → Int × Int
  | 0, p, s => if 3000 < s + 1 then (0, s + 1) else if (results r p).length = 0 then (endV r p, s + 1) else (0, s + 1)
  | d + 1, p, s => if 3000 < s + 1 then (0, s + 1) else if (results r p).length = 0 then (endV r p, s + 1) else svL (sv r d) true 0 (s + 1) (results r p)
theorem sv_big {r : Rul} {d : Nat} {p : Pos} {s : Int} (h : 3000 < s + 1) : sv r d p s = (0, s + 1) := by cases d <;> rw [sv, if_pos h]
theorem sv_end {r : Rul} {d : Nat} {p : Pos} {s : Int} (h : ¬ 3000 < s + 1) (h2 : (results r p).length = 0) : sv r d p s = (endV r p, s + 1) := by cases d <;> rw [sv, if_neg h, if_pos h2]
theorem sv_0 {r : Rul} {p : Pos} {s : Int} (h : ¬ 3000 < s + 1) (h2 : (results r p).length ≠ 0) : sv r 0 p s = (0, s + 1) := by rw [sv, if_neg h, if_neg h2]
theorem sv_s {r : Rul} {d : Nat} {p : Pos} {s : Int} (h : ¬ 3000 < s + 1) (h2 : (results r p).length ≠ 0) : sv r (d + 1) p s = svL (sv r d) true 0 (s + 1) (results r p) := by rw [sv, if_neg h, if_neg h2]
theorem svL_bd {f : Pos → Int → Int × Int} {B : Int} (hf : ∀ p s, (3000 ≤ s → (f p s).2 = s + 1) ∧ (s < 3000 → s ≤ (f p s).2 ∧ (f p s).2 ≤ B)) (hB : 3001 ≤ B) : ∀ (l : List Res) (fst : Bool) (b s : Int), s ≤ B →
    s ≤ (svL f fst b s l).2 ∧ (svL f fst b s l).2 ≤ B + l.length
  | [], _, _, s, h => by rw [svL]; simp; omega
  | x :: l, fst, b, s, h => by
    rw [svL]
    have h1 := hf x.next s
    by_cases h3 : 3000 ≤ s
    · have h4 := h1.1 h3
      rw [h4]
      have h5 := svL_hi hf hB l false (if fst = true ∨ b < moveV x (f x.next s).1 then moveV x (f x.next s).1 else b) (s + 1) (by omega)
      rw [h5, List.length_cons]; omega
    · have h4 := h1.2 (by omega)
      have h5 := svL_bd hf hB l false (if fst = true ∨ b < moveV x (f x.next s).1 then moveV x (f x.next s).1 else b) _ h4.2
      rw [List.length_cons]; omega
where
  svL_hi {f : Pos → Int → Int × Int} {B : Int} (hf : ∀ p s, (3000 ≤ s → (f p s).2 = s + 1) ∧ (s < 3000 → s ≤ (f p s).2 ∧ (f p s).2 ≤ B)) (hB : 3001 ≤ B) : ∀ (l : List Res) (fst : Bool) (b s : Int), 3000 ≤ s → (svL f fst b s l).2 = s + l.length
  | [], _, _, s, h => by rw [svL]; simp
  | x :: l, fst, b, s, h => by
    rw [svL, (hf x.next s).1 h, svL_hi hf hB l _ _ _ (by omega), List.length_cons]; omega
theorem sv_bd {r : Rul} : ∀ (d : Nat) (p : Pos) (s : Int), (∀ q, (results r q).length ≤ 8) → (3000 ≤ s → (sv r d p s).2 = s + 1) ∧ (s < 3000 → s ≤ (sv r d p s).2 ∧ (sv r d p s).2 ≤ 3001 + 8 * (d : Int))
  | 0, p, s, h8 => by
    rw [sv]; split
    · simp; omega
    split <;> (simp; omega)
  | d + 1, p, s, h8 => by
    rw [sv]; split
    · simp; omega
    split
    · simp; omega
    · rename_i h1 _
      have := svL_bd (B := 3001 + 8 * (d : Int)) (f := sv r d) (fun q t => sv_bd d q t h8) (by omega) (results r p) true 0 (s + 1) (by omega)
      have h3 := h8 p
      omega
theorem svL_val {f : Pos → Int → Int × Int} {g v : Pos → Int} (hg : ∀ p, 1 ≤ g p) (hf : ∀ p s, 0 ≤ s → s + g p ≤ 3000 → f p s = (v p, s + g p)) : ∀ (l : List Res) (fst : Bool) (b s : Int), 0 ≤ s →
    s + isum (l.map fun x => g x.next) ≤ 3000 → svL f fst b s l = (bestF fst b (l.map fun x => moveV x (v x.next)), s + isum (l.map fun x => g x.next))
  | [], _, _, s, _, _ => by simp [svL, bestF]
  | x :: l, fst, b, s, h0, h => by
    rw [List.map_cons, isum_cons] at h
    have h1 := hg x.next
    have h4 : 0 ≤ isum (l.map fun x => g x.next) := nn_isum (fun v hv => by
      obtain ⟨y, _, rfl⟩ := List.mem_map.1 hv
      have := hg y.next; omega)
    rw [svL, hf x.next s h0 (by omega), svL_val hg hf l _ _ _ (by omega) (by omega), List.map_cons, List.map_cons, isum_cons, bestF, Int.add_assoc]
theorem sv_val {r : Rul} : ∀ (d : Nat) (p : Pos) (s : Int), 0 ≤ s → s + size r d p ≤ 3000 → sv r d p s = (val r d p, s + size r d p)
  | 0, p, s, h0, h => by
    rw [size] at h ⊢
    rw [sv, if_neg (by omega), val]; split <;> rfl
  | d + 1, p, s, h0, h => by
    have h1 := size_pos r (d + 1) p
    by_cases h2 : (results r p).length = 0
    · rw [sv_end (by omega) h2, val_end h2, size]
      rw [List.eq_nil_of_length_eq_zero h2]; simp
    · rw [sv_s (by omega) h2, val_s h2, size] at *
      rw [svL_val (size_pos r d) (fun q t => sv_val d q t) _ _ _ _ (by omega) (by omega), best, Int.add_assoc]
theorem svL_grow {f : Pos → Int → Int × Int} {g : Pos → Int} (hm : ∀ p s, s ≤ (f p s).2) (hg : ∀ p s, 0 ≤ s → 3000 < s + g p → 3000 < (f p s).2) (he : ∀ p s, 0 ≤ s → s + g p ≤ 3000 → (f p s).2 = s + g p) : ∀ (l : List Res) (fst : Bool) (b s : Int), 0 ≤ s →
    s ≤ (svL f fst b s l).2 ∧ (3000 < s + isum (l.map fun x => g x.next) → 3000 < (svL f fst b s l).2)
  | [], _, _, s, _ => by simp [svL]
  | x :: l, fst, b, s, h0 => by
    have h1 := hm x.next s
    have h2 := svL_grow hm hg he l false (if fst = true ∨ b < moveV x (f x.next s).1 then moveV x (f x.next s).1 else b) (f x.next s).2 (by omega)
    rw [svL, List.map_cons, isum_cons]
    refine ⟨by omega, fun h3 => ?_⟩
    by_cases h4 : 3000 < s + g x.next
    · have := hg x.next s h0 h4; omega
    · rw [he x.next s h0 (by omega)] at h2 ⊢
      exact h2.2 (by omega)
theorem sv_grow {r : Rul} (h8 : ∀ q, (results r q).length ≤ 8) : ∀ (d : Nat) (p : Pos) (s : Int), 0 ≤ s → 3000 < s + size r d p → 3000 < (sv r d p s).2
  | 0, p, s, h0, h => by
    rw [size] at h
    rw [sv_big (by omega)]; simp; omega
  | d + 1, p, s, h0, h => by
    by_cases h1 : 3000 < s + 1
    · rw [sv_big h1]; simp; omega
    by_cases h2 : (results r p).length = 0
    · exfalso
      rw [size, List.eq_nil_of_length_eq_zero h2] at h; simp at h; omega
    rw [sv_s h1 h2]
    rw [size] at h
    refine (svL_grow (g := size r d) (fun q t => ?_) (fun q t => sv_grow h8 d q t) (fun q t ha hb => by rw [sv_val d q t ha hb]) (results r p) true 0 (s + 1) (by omega)).2 (by omega)
    have := sv_bd d q t h8
    by_cases h9 : 3000 ≤ t
    · have := this.1 h9; omega
    · have := this.2 (by omega); omega
theorem svL_vbd {f : Pos → Int → Int × Int} {B : Int} {l0 : List Res} (hf : ∀ x ∈ l0, ∀ s, -B ≤ (f x.next s).1 ∧ (f x.next s).1 ≤ B) (hg : ∀ x ∈ l0, -96 ≤ x.gain ∧ x.gain ≤ 96) : ∀ (l : List Res) (fst : Bool) (b s : Int), (∀ x ∈ l, x ∈ l0) → -(B + 96) ≤ b → b ≤ B + 96 →
    -(B + 96) ≤ (svL f fst b s l).1 ∧ (svL f fst b s l).1 ≤ B + 96
  | [], _, b, s, _, h1, h2 => by rw [svL]; exact ⟨h1, h2⟩
  | x :: l, fst, b, s, hl, h1, h2 => by
    have h3 := moveV_bd (hg x (hl x (by simp))) (hf x (hl x (by simp)) s)
    rw [svL]
    refine svL_vbd hf hg l _ _ _ (fun y hy => hl y (by simp [hy])) ?_ ?_
    · split <;> omega
    · split <;> omega
theorem sv_vbd {r : Rul} : ∀ (d : Nat) (p : Pos) (s : Int), okP r p = true → -(768 + 96 * (d : Int)) ≤ (sv r d p s).1 ∧ (sv r d p s).1 ≤ 768 + 96 * (d : Int)
  | 0, p, s, h => by
    have := endV_bd h
    rw [sv]; split
    · simp
    split <;> (simp; try omega)
  | d + 1, p, s, h => by
    have := endV_bd h
    rw [sv]; split
    · simp; omega
    split
    · simp; omega
    · have := svL_vbd (f := sv r d) (B := 768 + 96 * (d : Int)) (l0 := results r p) (fun x hx t => sv_vbd d x.next t (results_ok hx)) (fun x hx => results_gain hx) (results r p) true 0 (s + 1) (fun _ h => h) (by omega) (by omega)
      omega

theorem results_8R {r : Rul} (h : okR r = true) : ∀ q : Pos, (results r q).length ≤ 8 := fun q => by
  have h1 := resultsTo_len (r := r) (p := q) r.pits.toNat
  have h2 := okR_bd h
  unfold results; omega
theorem svL_y {f : Pos → Int → Int × Int} {b z : Int} {X : Int × Int} {l : List Res} {k : Nat} {y : Res} (h : svL f (decide (k = 0)) b z (l.drop k) = X) (hy : l[k]? = some y) (hc : k = 0 ∨ b < moveV y (f y.next z).1) : svL f (decide (k + 1 = 0)) (moveV y (f y.next z).1) (f y.next z).2 (l.drop (k + 1)) = X := by
  rw [drop_some hy, svL, if_pos (by simpa using hc)] at h
  simpa using h
theorem svL_n {f : Pos → Int → Int × Int} {b z : Int} {X : Int × Int} {l : List Res} {k : Nat} {y : Res} (h : svL f (decide (k = 0)) b z (l.drop k) = X) (hy : l[k]? = some y) (hc : ¬ (k = 0 ∨ b < moveV y (f y.next z).1)) : svL f (decide (k + 1 = 0)) b (f y.next z).2 (l.drop (k + 1)) = X := by
  rw [drop_some hy, svL, if_neg (by simpa using hc)] at h
  simpa using h
theorem svL_e {f : Pos → Int → Int × Int} {c : Bool} {b z : Int} {X : Int × Int} {l : List Res} {k : Nat} (h : svL f c b z (l.drop k) = X) (hk : l.length ≤ k) : X = (b, z) := by
  rw [List.drop_eq_nil_of_le hk] at h; exact h.symm
theorem sv_d {r : Rul} {depth : Int} {p : Pos} {s : Int} (h : ¬ 3000 < s + 1) (h2 : (results r p).length ≠ 0) (hd : 1 ≤ depth) : sv r depth.toNat p s = svL (sv r (depth - 1).toNat) true 0 (s + 1) (results r p) := by
  rw [show depth.toNat = (depth - 1).toNat + 1 by omega, sv_s h h2]
theorem sv_too {r : Rul} {d : Nat} {p : Pos} (h : okR r = true) : 3000 < (sv r d p 0).2 ↔ 3000 < size r d p := by
  constructor
  · intro h1
    by_cases h2 : 0 + size r d p ≤ 3000
    · rw [sv_val d p 0 (by omega) h2] at h1; simp at h1; omega
    · omega
  · intro h1
    exact sv_grow (results_8R h) d p 0 (by omega) (by omega)
/-- the sizes behind the first moves -/
def szk (r : Rul) (d : Nat) (p : Pos) (k : Nat) : Int := isum (((results r p).take k).map fun x => size r d x.next)
theorem szk_zero (r : Rul) (d : Nat) (p : Pos) : szk r d p 0 = 0 := by simp [szk]
theorem szk_step {r : Rul} {d : Nat} {p : Pos} {k : Nat} {y : Res} (h : (results r p)[k]? = some y) : szk r d p (k + 1) = szk r d p k + size r d y.next := by
  unfold szk
  rw [List.take_add_one, h, List.map_append, isum_append]
  simp
theorem szk_le (r : Rul) (d : Nat) (p : Pos) (k : Nat) : 0 ≤ szk r d p k ∧ szk r d p k + 1 ≤ size r (d + 1) p := by
  have hn : ∀ l : List Res, 0 ≤ isum (l.map fun x => size r d x.next) := fun l => nn_isum (fun v hv => by
      obtain ⟨x, _, rfl⟩ := List.mem_map.1 hv
      have := size_pos r d x.next; omega)
  have h1 := hn ((results r p).take k)
  have h2 := hn ((results r p).drop k)
  have h3 : isum ((results r p).map fun x => size r d x.next) = isum (((results r p).take k).map fun x => size r d x.next) + isum (((results r p).drop k).map fun x => size r d x.next) := by
    rw [← isum_append, ← List.map_append, List.take_append_drop]
  rw [size]; unfold szk; omega

/-! ### codes -/
def baseC (r : Rul) (p : Pos) (depth : Int) : Int := if okP r p = true then (if betw depth 0 8 = true then 0 else 2) else 1
def srchC (r : Rul) (p : Pos) (depth : Int) : Int := if okP r p = true then (if betw depth 0 8 = true then (if 3000 < size r depth.toNat p then 5 else 0) else 2) else 1
def optsC (r : Rul) (p : Pos) (depth : Int) : Int := if okP r p = true ∧ depth = 0 then 2 else srchC r p depth
theorem srchC_1 {r : Rul} {p : Pos} {depth : Int} (h : okP r p = false) : srchC r p depth = 1 := by unfold srchC; rw [if_neg (by simp [h])]
theorem srchC_2 {r : Rul} {p : Pos} {depth : Int} (h : okP r p = true) (h2 : betw depth 0 8 = false) : srchC r p depth = 2 := by unfold srchC; rw [if_pos h, if_neg (by simp [h2])]
theorem srchC_5 {r : Rul} {p : Pos} {depth : Int} (h : okP r p = true) (h2 : betw depth 0 8 = true) (h3 : 3000 < size r depth.toNat p) : srchC r p depth = 5 := by unfold srchC; rw [if_pos h, if_pos h2, if_pos h3]
theorem srchC_0 {r : Rul} {p : Pos} {depth : Int} (h : okP r p = true) (h2 : betw depth 0 8 = true) (h3 : ¬ 3000 < size r depth.toNat p) : srchC r p depth = 0 := by unfold srchC; rw [if_pos h, if_pos h2, if_neg h3]
theorem srchC_ok {r : Rul} {p : Pos} {depth : Int} (h : srchC r p depth = 0) : okP r p = true ∧ 0 ≤ depth ∧ depth ≤ 8 ∧ size r depth.toNat p ≤ 3000 := by
  unfold srchC at h
  by_cases h1 : okP r p = true
  · rw [if_pos h1] at h
    by_cases h2 : betw depth 0 8 = true
    · rw [if_pos h2] at h
      by_cases h3 : 3000 < size r depth.toNat p
      · rw [if_pos h3] at h; simp at h
      · have := betw_iff.1 h2; exact ⟨h1, this.1, this.2, by omega⟩
    · rw [if_neg h2] at h; simp at h
  · rw [if_neg h1] at h; simp at h
theorem optsC_2 {r : Rul} {p : Pos} {depth : Int} (h : okP r p = true ∧ depth = 0) : optsC r p depth = 2 := by unfold optsC; rw [if_pos h]
theorem optsC_s {r : Rul} {p : Pos} {depth : Int} (h : ¬ (okP r p = true ∧ depth = 0)) : optsC r p depth = srchC r p depth := by unfold optsC; rw [if_neg h]
theorem optsC_ok {r : Rul} {p : Pos} {depth : Int} (h : optsC r p depth = 0) : okP r p = true ∧ 1 ≤ depth ∧ depth ≤ 8 ∧ size r depth.toNat p ≤ 3000 ∧ srchC r p depth = 0 := by
  by_cases h1 : okP r p = true ∧ depth = 0
  · rw [optsC_2 h1] at h; simp at h
  · rw [optsC_s h1] at h
    obtain ⟨a, b, c, d⟩ := srchC_ok h
    refine ⟨a, ?_, c, d, h⟩
    by_cases h2 : depth = 0
    · exact absurd ⟨a, h2⟩ h1
    · omega

theorem baseC_1 {r : Rul} {p : Pos} {depth : Int} (h : okP r p = false) : baseC r p depth = 1 := by unfold baseC; rw [if_neg (by simp [h])]
theorem baseC_2 {r : Rul} {p : Pos} {depth : Int} (h : okP r p = true) (h2 : betw depth 0 8 = false) : baseC r p depth = 2 := by unfold baseC; rw [if_pos h, if_neg (by simp [h2])]
theorem baseC_0 {r : Rul} {p : Pos} {depth : Int} (h : okP r p = true) (h2 : betw depth 0 8 = true) : baseC r p depth = 0 := by unfold baseC; rw [if_pos h, if_pos h2]
theorem baseC_ok {r : Rul} {p : Pos} {depth : Int} (h : baseC r p depth = 0) : okP r p = true ∧ 0 ≤ depth ∧ depth ≤ 8 := by
  cases h1 : okP r p
  · rw [baseC_1 h1] at h; simp at h
  · cases h2 : betw depth 0 8
    · rw [baseC_2 h1 h2] at h; simp at h
    · have := betw_iff.1 h2; exact ⟨rfl, this.1, this.2⟩
theorem baseC_srch {r : Rul} {p : Pos} {depth : Int} (h : baseC r p depth ≠ 0) : srchC r p depth = baseC r p depth := by
  cases h1 : okP r p
  · rw [baseC_1 h1, srchC_1 h1]
  · cases h2 : betw depth 0 8
    · rw [baseC_2 h1 h2, srchC_2 h1 h2]
    · rw [baseC_0 h1 h2] at h; exact absurd rfl h
def ask (r : Rul) (p : Pos) (depth : Int) : Int × Int × Int := if srchC r p depth = 0 then (val r depth.toNat p, size r depth.toNat p, 0) else (0, 0, srchC r p depth)
theorem ask_no {r : Rul} {p : Pos} {depth : Int} (h : srchC r p depth ≠ 0) : ask r p depth = (0, 0, srchC r p depth) := by unfold ask; rw [if_neg h]
theorem ask_yes {r : Rul} {p : Pos} {depth : Int} (h : srchC r p depth = 0) : ask r p depth = (val r depth.toNat p, size r depth.toNat p, 0) := by unfold ask; rw [if_pos h]
theorem ask_c (r : Rul) (p : Pos) (depth : Int) : (ask r p depth).2.2 = srchC r p depth := by
  by_cases h : srchC r p depth = 0
  · rw [ask_yes h, h]
  · rw [ask_no h]
theorem ask_5 {r : Rul} {p : Pos} {depth : Int} (h : baseC r p depth = 0) (h2 : 3000 < (sv r depth.toNat p 0).2) : ask r p depth = (0, 0, 5) := by
  obtain ⟨a, b, c⟩ := baseC_ok h
  have h3 := srchC_5 a (betw_iff.2 ⟨b, c⟩) ((sv_too (okP_okR a)).1 h2)
  rw [ask_no (by rw [h3]; decide), h3]
theorem ask_0 {r : Rul} {p : Pos} {depth : Int} (h : baseC r p depth = 0) (h2 : ¬ 3000 < (sv r depth.toNat p 0).2) : ask r p depth = ((sv r depth.toNat p 0).1, (sv r depth.toNat p 0).2, 0) := by
  obtain ⟨a, b, c⟩ := baseC_ok h
  have h3 := fun h => h2 ((sv_too (d := depth.toNat) (p := p) (okP_okR a)).2 h)
  rw [ask_yes (srchC_0 a (betw_iff.2 ⟨b, c⟩) h3), sv_val _ _ _ (Int.le_refl 0) (by have : ¬ 3000 < size r depth.toNat p := h3; omega)]; simp
theorem ask_b {r : Rul} {p : Pos} {depth : Int} (h : baseC r p depth ≠ 0) : ask r p depth = (0, 0, baseC r p depth) := by
  have := baseC_srch h
  rw [ask_no (by rw [this]; exact h), this]
theorem optsC_base {r : Rul} {p : Pos} {depth : Int} (h : baseC r p depth ≠ 0) : optsC r p depth = baseC r p depth := by
  cases h1 : okP r p
  · rw [baseC_1 h1, optsC_s (by simp [h1]), srchC_1 h1]
  · cases h2 : betw depth 0 8
    · rw [baseC_2 h1 h2, optsC_s ?_, srchC_2 h1 h2]
      rintro ⟨_, rfl⟩
      exact absurd h2 (by decide)
    · rw [baseC_0 h1 h2] at h; exact absurd rfl h

/-! ### options -/
def optOf (r : Rul) (d : Nat) (x : Res) : Opt := ⟨x.move, moveV x (val r d x.next)⟩
def opts (r : Rul) (p : Pos) (depth : Int) : List Opt := (results r p).map (optOf r (depth - 1).toNat)
theorem opts_len (r : Rul) (p : Pos) (depth : Int) : (opts r p depth).length = (results r p).length := by simp [opts]
theorem opts_step {r : Rul} {p : Pos} {depth : Int} {k : Nat} {y : Res} (h : (results r p)[k]? = some y) : (opts r p depth).take (k + 1) = (opts r p depth).take k ++ [Opt.mk y.move (moveV y (val r (depth - 1).toNat y.next))] := by
  have h1 : (opts r p depth)[k]? = some (optOf r (depth - 1).toNat y) := by unfold opts; rw [List.getElem?_map, h]; rfl
  rw [List.take_add_one, h1]; rfl
def optsR (r : Rul) (p : Pos) (depth : Int) : List Opt := if optsC r p depth = 0 then opts r p depth else []
theorem optsR_yes {r : Rul} {p : Pos} {depth : Int} (h : optsC r p depth = 0) : optsR r p depth = opts r p depth := by unfold optsR; rw [if_pos h]
theorem optsR_no {r : Rul} {p : Pos} {depth : Int} (h : optsC r p depth ≠ 0) : optsR r p depth = [] := by unfold optsR; rw [if_neg h]
theorem optsR_len (r : Rul) (p : Pos) (depth : Int) : (optsR r p depth).length ≤ 8 := by
  by_cases h : optsC r p depth = 0
  · rw [optsR_yes h, opts_len]; exact results_8 (optsC_ok h).1
  · rw [optsR_no h]; simp
def bOptF (b : Opt) : List Opt → Opt
  | [] => b
  | o :: l => bOptF (if b.value < o.value then o else b) l
def bOpt : List Opt → Opt
  | [] => Opt.zero
  | a :: l => bOptF a l
theorem bOpt_zero {l : List Opt} {y : Opt} (h : l[0]? = some y) : bOptF y (l.drop 0) = bOpt l := by
  cases l with
  | nil => simp at h
  | cons a t => simp at h; subst h; rw [List.drop_zero, bOptF, if_neg (by omega)]; rfl
theorem bOpt_one {l : List Opt} {y : Opt} (h : l[0]? = some y) : bOptF y (l.drop 1) = bOpt l := by
  cases l with
  | nil => simp at h
  | cons a t => simp at h; subst h; rfl
theorem bOptF_y {l : List Opt} {k : Nat} {y b : Opt} {X : Opt} (h : bOptF b (l.drop k) = X) (hy : l[k]? = some y) (hv : b.value < y.value) : bOptF y (l.drop (k + 1)) = X := by
  rw [drop_some hy, bOptF, if_pos hv] at h; exact h
theorem bOptF_n {l : List Opt} {k : Nat} {y b : Opt} {X : Opt} (h : bOptF b (l.drop k) = X) (hy : l[k]? = some y) (hv : ¬ b.value < y.value) : bOptF b (l.drop (k + 1)) = X := by
  rw [drop_some hy, bOptF, if_neg hv] at h; exact h
theorem bOptF_e {l : List Opt} {k : Nat} {b : Opt} {X : Opt} (h : bOptF b (l.drop k) = X) (hk : l.length ≤ k) : b = X := by
  rw [List.drop_eq_nil_of_le hk] at h; exact h
theorem bOptF_mem : ∀ (l : List Opt) (b : Opt), bOptF b l = b ∨ bOptF b l ∈ l
  | [], b => .inl rfl
  | o :: l, b => by
    rw [bOptF]
    rcases bOptF_mem l (if b.value < o.value then o else b) with h | h
    · rw [h]; split
      · exact .inr (by simp)
      · exact .inl rfl
    · exact .inr (by simp [h])
theorem bOpt_mem {l : List Opt} (h : l.length ≠ 0) : bOpt l ∈ l := by
  cases l with
  | nil => simp at h
  | cons a t =>
    rcases bOptF_mem t a with e | e
    · show bOptF a t ∈ _; rw [e]; simp
    · show bOptF a t ∈ _; simp [e]
theorem bOpt_make {r : Rul} {p : Pos} {depth : Int} (h : (results r p).length ≠ 0) : (make r p (bOpt (opts r p depth)).move).2 = 0 ∧ (make r p (bOpt (opts r p depth)).move).1 ∈ results r p := by
  have h1 := bOpt_mem (l := opts r p depth) (by rw [opts_len]; exact h)
  obtain ⟨x, hx, e⟩ := List.mem_map.1 h1
  obtain ⟨m, hm, rfl⟩ := results_fact hx
  have h3 := (make_ok hm).2.2.2.2.1
  have h4 : (bOpt (opts r p depth)).move = m := by rw [← e]; exact h3
  rw [h4]; exact ⟨hm, hx⟩
theorem opts_bd {r : Rul} {p : Pos} {depth : Int} (h : okP r p = true) (h1 : 0 ≤ depth) (h2 : depth ≤ 8) {o : Opt} (ho : o ∈ opts r p depth) : -2000 ≤ o.value ∧ o.value ≤ 2000 := by
  obtain ⟨x, hx, rfl⟩ := List.mem_map.1 ho
  have h3 := val_bd (depth - 1).toNat x.next (results_ok hx)
  have h4 := moveV_bd (results_gain hx) h3
  show -2000 ≤ moveV _ _ ∧ moveV _ _ ≤ 2000
  omega

/-! ### lines -/
def lineT (r : Rul) : Nat → Pos → List Int
  | 0, _ => []
  | d + 1, p => if (results r p).length = 0 then [] else (bOpt (opts r p (d + 1 : Nat))).move :: lineT r d (make r p (bOpt (opts r p (d + 1 : Nat))).move).1.next
theorem lineT_end {r : Rul} {d : Nat} {p : Pos} (h : (results r p).length = 0) : lineT r d p = [] := by
  cases d with
  | zero => rfl
  | succ d => rw [lineT, if_pos h]
structure Line (r : Rul) (p0 : Pos) (d0 : Int) (out : List Int) (p : Pos) (depth : Int) : Prop where
  ok : okP r p = true
  lo : 0 ≤ depth
  hi : depth ≤ 8
  sz : size r depth.toNat p ≤ 3000
  eq : out ++ lineT r depth.toNat p = lineT r d0.toNat p0
  ln : (out.length : Int) + depth = d0
theorem Line.zero {r : Rul} {p : Pos} {d : Int} (h : srchC r p d = 0) : Line r p d [] p d := by
  obtain ⟨a, b, c, e⟩ := srchC_ok h
  exact ⟨a, b, c, e, rfl, by simp⟩
theorem Line.end_ {r : Rul} {p0 p : Pos} {d0 d : Int} {out : List Int} (h : Line r p0 d0 out p d) (hd : (results r p).length = 0) : lineT r d0.toNat p0 = out := by
  have := h.eq; rw [lineT_end hd, List.append_nil] at this; exact this.symm
theorem Line.done {r : Rul} {p0 p : Pos} {d0 d : Int} {out : List Int} (h : Line r p0 d0 out p d) (hd : d ≤ 0) : lineT r d0.toNat p0 = out := by
  have := h.eq; rw [show d.toNat = 0 by omega, lineT, List.append_nil] at this; exact this.symm
theorem Line.step {r : Rul} {p0 p : Pos} {d0 d : Int} {out : List Int} (h : Line r p0 d0 out p d) (hd : 0 < d) (hl : (results r p).length ≠ 0) :
    Line r p0 d0 (out ++ [(bOpt (opts r p d)).move]) (make r p (bOpt (opts r p d)).move).1.next (d - 1) := by
  have hm := bOpt_make (depth := d) hl
  have e1 : d.toNat = (d - 1).toNat + 1 := by omega
  have e2 : (((d - 1).toNat + 1 : Nat) : Int) = d := by omega
  refine ⟨(make_ok hm.1).2.2.2.1, by omega, by have := h.hi; omega, ?_, ?_, ?_⟩
  · have := size_sub (d := (d - 1).toNat) hm.2
    rw [← e1] at this; have := h.sz; omega
  · have := h.eq
    rw [e1, lineT, if_neg hl, e2] at this
    rw [List.append_assoc]; exact this
  · have := h.ln; simp; omega
theorem Line.srch {r : Rul} {p0 p : Pos} {d0 d : Int} {out : List Int} (h : Line r p0 d0 out p d) (hd : 0 < d) : optsC r p d = 0 := by
  rw [optsC_s (by omega), srchC_0 h.ok (betw_iff.2 ⟨h.lo, h.hi⟩) (by have := h.sz; omega)]
def lineR (r : Rul) (p : Pos) (depth : Int) : List Int := if srchC r p depth = 0 then lineT r depth.toNat p else []
theorem lineR_yes {r : Rul} {p : Pos} {depth : Int} (h : srchC r p depth = 0) : lineR r p depth = lineT r depth.toNat p := by unfold lineR; rw [if_pos h]
theorem lineR_no {r : Rul} {p : Pos} {depth : Int} (h : srchC r p depth ≠ 0) : lineR r p depth = [] := by unfold lineR; rw [if_neg h]
theorem lineT_len (r : Rul) : ∀ (d : Nat) (p : Pos), (lineT r d p).length ≤ d
  | 0, _ => by rw [lineT]; simp
  | d + 1, p => by
    rw [lineT]; split
    · simp
    · have := lineT_len r d (make r p (bOpt (opts r p (d + 1 : Nat))).move).1.next
      rw [List.length_cons]; omega
theorem lineR_len (r : Rul) (p : Pos) (depth : Int) : (lineR r p depth).length ≤ 8 := by
  by_cases h : srchC r p depth = 0
  · rw [lineR_yes h]
    have h1 := lineT_len r depth.toNat p
    have h2 := srchC_ok h
    omega
  · rw [lineR_no h]; simp

/-! ### puzzles -/
def second (m : Int) (s : Int) : List Opt → Int
  | [] => s
  | o :: l => second m (if o.move = m then s else if s < o.value then o.value else s) l
theorem second_s {m s : Int} {l : List Opt} {k : Nat} {y : Opt} {X : Int} (h : second m s (l.drop k) = X) (hy : l[k]? = some y) : second m (if y.move = m then s else if s < y.value then y.value else s) (l.drop (k + 1)) = X := by
  rw [drop_some hy, second] at h; exact h
theorem second_e {m s : Int} {l : List Opt} {k : Nat} {X : Int} (h : second m s (l.drop k) = X) (hk : l.length ≤ k) : s = X := by
  rw [List.drop_eq_nil_of_le hk] at h; exact h
def puz (r : Rul) (p : Pos) (depth : Int) : Puz × Int :=
  if optsC r p depth ≠ 0 then (Puz.zero, optsC r p depth)
  else if (opts r p depth).length < 2 then (Puz.zero, 6)
  else if second (bOpt (opts r p depth)).move (-1000) (opts r p depth) = (bOpt (opts r p depth)).value then (Puz.zero, 6)
  else (⟨r, p, depth, (bOpt (opts r p depth)).move, (bOpt (opts r p depth)).value, (bOpt (opts r p depth)).value - second (bOpt (opts r p depth)).move (-1000) (opts r p depth)⟩, 0)
theorem puz_c {r : Rul} {p : Pos} {depth : Int} (h : optsC r p depth ≠ 0) : puz r p depth = (Puz.zero, optsC r p depth) := by unfold puz; rw [if_pos h]
theorem puz_2 {r : Rul} {p : Pos} {depth : Int} (h : optsC r p depth = 0) (h2 : (opts r p depth).length < 2) : puz r p depth = (Puz.zero, 6) := by unfold puz; rw [if_neg (by simpa using h), if_pos h2]
theorem puz_6 {r : Rul} {p : Pos} {depth : Int} (h : optsC r p depth = 0) (h2 : ¬ (opts r p depth).length < 2) (h3 : second (bOpt (opts r p depth)).move (-1000) (opts r p depth) = (bOpt (opts r p depth)).value) : puz r p depth = (Puz.zero, 6) := by
  unfold puz; rw [if_neg (by simpa using h), if_neg h2, if_pos h3]
theorem puz_0 {r : Rul} {p : Pos} {depth : Int} (h : optsC r p depth = 0) (h2 : ¬ (opts r p depth).length < 2) (h3 : ¬ second (bOpt (opts r p depth)).move (-1000) (opts r p depth) = (bOpt (opts r p depth)).value) :
    puz r p depth = (⟨r, p, depth, (bOpt (opts r p depth)).move, (bOpt (opts r p depth)).value, (bOpt (opts r p depth)).value - second (bOpt (opts r p depth)).move (-1000) (opts r p depth)⟩, 0) := by
  unfold puz; rw [if_neg (by simpa using h), if_neg h2, if_neg h3]
def samez (a b : Puz) : Bool := decide (a.rules = b.rules) && sameP a.position b.position && decide (a.depth = b.depth) && decide (a.move = b.move) && decide (a.value = b.value) && decide (a.margin = b.margin)
theorem samez_eq {a b : Puz} (h : samez a b = true) : a = b := by
  unfold samez at h
  simp only [Bool.and_eq_true, decide_eq_true_eq, sameP_true] at h
  obtain ⟨⟨⟨⟨⟨h1, h2⟩, h3⟩, h4⟩, h5⟩, h6⟩ := h
  exact puz_ext h1 h2 h3 h4 h5 h6
def okZ (z : Puz) : Bool := decide ((puz z.rules z.position z.depth).2 = 0) && samez (puz z.rules z.position z.depth).1 z
theorem okZ_parts {z : Puz} (h : okZ z = true) : optsC z.rules z.position z.depth = 0 ∧ puz z.rules z.position z.depth = (z, 0) := by
  unfold okZ at h
  simp only [Bool.and_eq_true, decide_eq_true_eq] at h
  have h2 := samez_eq h.2
  refine ⟨?_, Prod.ext h2 h.1⟩
  by_cases h3 : optsC z.rules z.position z.depth = 0
  · exact h3
  · have := h.1; rw [puz_c h3] at this; exact absurd this h3

theorem okZ_val {z : Puz} (h : okZ z = true) : -2000 ≤ z.value ∧ z.value ≤ 2000 := by
  obtain ⟨a, b⟩ := okZ_parts h
  have ho := optsC_ok a
  have e : (puz z.rules z.position z.depth).1.value = z.value := by rw [b]
  unfold puz at b e
  rw [if_neg (by simpa using a)] at b e
  by_cases h2 : (opts z.rules z.position z.depth).length < 2
  · rw [if_pos h2] at b; simp at b
  rw [if_neg h2] at b e
  split at b
  · simp at b
  · rename_i h3
    rw [if_neg h3] at e
    rw [← e]
    exact opts_bd ho.1 (by omega) ho.2.2.1 (bOpt_mem (by omega))

/-! ### what is asked about a puzzle -/
def ans (z : Puz) (move : Int) : Int × Int :=
  if okZ z = true then (if (make z.rules z.position move).2 = 0 then (z.value - moveV (make z.rules z.position move).1 (val z.rules (z.depth - 1).toNat (make z.rules z.position move).1.next), 0) else (0, (make z.rules z.position move).2)) else (0, 1)
theorem ans_1 {z : Puz} {move : Int} (h : okZ z = false) : ans z move = (0, 1) := by unfold ans; rw [if_neg (by simp [h])]
theorem ans_c {z : Puz} {move : Int} (h : okZ z = true) (h2 : (make z.rules z.position move).2 ≠ 0) : ans z move = (0, (make z.rules z.position move).2) := by unfold ans; rw [if_pos h, if_neg h2]
theorem ans_0 {z : Puz} {move : Int} (h : okZ z = true) (h2 : (make z.rules z.position move).2 = 0) :
    ans z move = (z.value - moveV (make z.rules z.position move).1 (val z.rules (z.depth - 1).toNat (make z.rules z.position move).1.next), 0) := by unfold ans; rw [if_pos h, if_pos h2]
theorem opts_get {r : Rul} {p : Pos} {depth move : Int} {k : Nat} {y : Opt} (h : (opts r p depth)[k]? = some y) (hm : y.move = move) : y.value = moveV (make r p move).1 (val r (depth - 1).toNat (make r p move).1.next) := by
  unfold opts at h
  rw [List.getElem?_map] at h
  obtain ⟨x, hx, rfl⟩ := Option.map_eq_some_iff.1 h
  rw [← results_get hx hm]; rfl
theorem opts_has {r : Rul} {p : Pos} {depth move : Int} (h : (make r p move).2 = 0) : ∃ j, j < (opts r p depth).length ∧ ∃ y, (opts r p depth)[j]? = some y ∧ y.move = move := by
  obtain ⟨j, hj, hx, hm⟩ := results_has h
  exact ⟨j, by rw [opts_len]; exact hj, optOf r (depth - 1).toNat (make r p move).1, by unfold opts; rw [List.getElem?_map, hx]; rfl, hm⟩
theorem none_stepO {l : List Opt} {k : Nat} {y : Opt} {move : Int} (hn : ∀ (j : Nat) (x : Opt), j < k → l[j]? = some x → x.move ≠ move) (hy : l[k]? = some y) (h : y.move ≠ move) : ∀ (j : Nat) (x : Opt), j < k + 1 → l[j]? = some x → x.move ≠ move := fun j x hj hx => by
  by_cases e : j = k
  · subst e; rw [hy] at hx; cases hx; exact h
  · exact hn j x (by omega) hx
def sol (z : Puz) : List Int := if okZ z = true then lineR z.rules z.position z.depth else []
def solC (z : Puz) : Int := if okZ z = true then srchC z.rules z.position z.depth else 1
theorem sol_yes {z : Puz} (h : okZ z = true) : sol z = lineR z.rules z.position z.depth := by unfold sol; rw [if_pos h]
theorem sol_no {z : Puz} (h : okZ z = false) : sol z = [] := by unfold sol; rw [if_neg (by simp [h])]
theorem solC_yes {z : Puz} (h : okZ z = true) : solC z = srchC z.rules z.position z.depth := by unfold solC; rw [if_pos h]
theorem solC_no {z : Puz} (h : okZ z = false) : solC z = 1 := by unfold solC; rw [if_neg (by simp [h])]
theorem sol_len (z : Puz) : (sol z).length ≤ 8 := by
  cases h : okZ z
  · rw [sol_no h]; simp
  · rw [sol_yes h]; exact lineR_len _ _ _
def turnP (r : Rul) (p : Pos) : Pos := ⟨p.pits.drop r.pits.toNat ++ p.pits.take r.pits.toNat, [nth p.stores 1, nth p.stores 0], 1 - p.player⟩
def turnZ (z : Puz) : Puz × Int := if okZ z = true then (⟨z.rules, turnP z.rules z.position, z.depth, z.move, z.value, z.margin⟩, 0) else (Puz.zero, 1)
theorem turnZ_no {z : Puz} (h : okZ z = false) : turnZ z = (Puz.zero, 1) := by unfold turnZ; rw [if_neg (by simp [h])]
theorem turnZ_yes {z : Puz} (h : okZ z = true) : turnZ z = (⟨z.rules, turnP z.rules z.position, z.depth, z.move, z.value, z.margin⟩, 0) := by unfold turnZ; rw [if_pos h]
structure SmallP (p : Pos) : Prop where
  sp : p.pits.length ≤ 4194304
  ss : p.stores.length ≤ 4194304
theorem SmallP.zero : SmallP Pos.zero := ⟨by decide, by decide⟩
theorem SmallP.ok {r : Rul} {p : Pos} (h : okP r p = true) : SmallP p := ⟨(okP_len h).1, (okP_len h).2⟩
theorem puz_small (r : Rul) (p : Pos) (depth : Int) : SmallP (puz r p depth).1.position := by
  unfold puz
  split
  · exact SmallP.zero
  · rename_i h
    have hp := (optsC_ok (by simpa using h)).1
    split
    · exact SmallP.zero
    split
    · exact SmallP.zero
    · exact SmallP.ok hp
theorem turnZ_small (z : Puz) : SmallP (turnZ z).1.position := by
  cases h : okZ z
  · rw [turnZ_no h]; exact SmallP.zero
  · rw [turnZ_yes h]
    obtain ⟨a, b⟩ := okZ_parts h
    have := okP_len (optsC_ok a).1
    refine ⟨?_, by simp [turnP]⟩
    simp [turnP]; omega
def markZ (z : Puz) (k : Int) : Puz := ⟨z.rules, markP z.position k, z.depth, z.move, z.value, z.margin⟩
end Go.Proofs.Ytinkeciedmjjmaa.M

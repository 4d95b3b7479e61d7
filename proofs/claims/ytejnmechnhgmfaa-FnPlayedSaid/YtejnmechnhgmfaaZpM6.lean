/- Plain mathematics of searches. -/
import Derived.Test.YtejnmechnhgmfaaZpM5
set_option linter.unusedSimpArgs false
set_option linter.unusedVariables false
namespace Go.Proofs.Ytejnmechnhgmfaa.M
structure Opt where
  move : Int
  value : Int
  deriving DecidableEq
structure Puz where
  rules : Rul
  position : Pos
  depth : Int
  move : Int
  value : Int
  margin : Int
  deriving DecidableEq
def Opt.zero : Opt := ⟨0, 0⟩
def Puz.zero : Puz := ⟨Rul.zero, Pos.zero, 0, 0, 0, 0⟩
def endV (r : Rul) (p : Pos) : Int := side r p.pits p.player - side r p.pits (1 - p.player)
def moveV (x : Res) (v : Int) : Int := if x.again = true then x.gain + v else x.gain - v
def bestF (fst : Bool) (b : Int) : List Int → Int
  | [] => b
  | v :: l => bestF false (if fst = true ∨ b < v then v else b) l
def best (l : List Int) : Int := bestF true 0 l
theorem results_fact {r : Rul} {p : Pos} {x : Res} (h : x ∈ results r p) : ∃ move : Int, (make r p move).2 = 0 ∧ x = (make r p move).1 := by
  obtain ⟨m, _, h2, h3⟩ := resultsTo_mem.1 h
  exact ⟨_, h2, h3⟩
theorem results_8 {r : Rul} {p : Pos} (h : okP r p = true) : (results r p).length ≤ 8 := by
  have h1 := resultsTo_len (r := r) (p := p) r.pits.toNat
  have h2 := okP_bd h
  unfold results; omega
def val (r : Rul) : Nat → Pos → Int
  | 0, p => if (results r p).length = 0 then endV r p else 0
  | d + 1, p => if (results r p).length = 0 then endV r p else best ((results r p).map fun x => moveV x (val r d x.next))
def vals (r : Rul) (d : Nat) (p : Pos) : List Int := (results r p).map fun x => moveV x (val r d x.next)
def size (r : Rul) : Nat → Pos → Int
  | 0, _ => 1
  | d + 1, p => 1 + isum ((results r p).map fun x => size r d x.next)
theorem size_pos (r : Rul) : ∀ (d : Nat) (p : Pos), 1 ≤ size r d p
  | 0, _ => by rw [size]; omega
  | d + 1, p => by
    rw [size]
    have := nn_isum (l := (results r p).map fun x => size r d x.next) (fun v hv => by
      obtain ⟨x, _, rfl⟩ := List.mem_map.1 hv
      have := size_pos r d x.next; omega)
    omega
theorem isum_mem {l : List Int} {v : Int} (h : nn l) (hv : v ∈ l) : v ≤ isum l := by
  obtain ⟨k, hk, rfl⟩ := List.getElem_of_mem hv
  rw [← nth_eq hk]; exact nth_le_isum h k
theorem size_sub {r : Rul} {d : Nat} {p : Pos} {x : Res} (h : x ∈ results r p) : size r d x.next ≤ size r (d + 1) p := by
  have := isum_mem (l := (results r p).map fun x => size r d x.next) (v := size r d x.next) (fun v hv => by
      obtain ⟨x, _, rfl⟩ := List.mem_map.1 hv
      have := size_pos r d x.next; omega) (List.mem_map.2 ⟨x, h, rfl⟩)
  rw [size]; omega
def srchC (r : Rul) (p : Pos) (depth : Int) : Int := if okP r p = true then (if betw depth 0 8 = true then (if 3000 < size r depth.toNat p then 5 else 0) else 2) else 1
theorem srchC_ok {r : Rul} {p : Pos} {depth : Int} (h : srchC r p depth = 0) : okP r p = true ∧ 0 ≤ depth ∧ depth ≤ 8 ∧ size r depth.toNat p ≤ 3000 := by
  unfold srchC at h
  by_cases h1 : okP r p = true
  · rw [if_pos h1] at h
    by_cases h2 : betw depth 0 8 = true
    · rw [if_pos h2] at h
      by_cases h3 : 3000 < size r depth.toNat p
      · rw [if_pos h3] at h; simp at h
      · have := betw_iff.1 h2; exact ⟨h1, this.1, this.2, by omega⟩
    · rw [if_neg h2] at h; simp at h
  · rw [if_neg h1] at h; simp at h
def optOf (r : Rul) (d : Nat) (x : Res) : Opt := ⟨x.move, moveV x (val r d x.next)⟩
def opts (r : Rul) (p : Pos) (depth : Int) : List Opt := (results r p).map (optOf r (depth - 1).toNat)
theorem opts_len (r : Rul) (p : Pos) (depth : Int) : (opts r p depth).length = (results r p).length := by simp [opts]
def bOptF (b : Opt) : List Opt → Opt
  | [] => b
  | o :: l => bOptF (if b.value < o.value then o else b) l
def bOpt : List Opt → Opt
  | [] => Opt.zero
  | a :: l => bOptF a l
theorem bOptF_mem : ∀ (l : List Opt) (b : Opt), bOptF b l = b ∨ bOptF b l ∈ l
  | [], b => .inl rfl
  | o :: l, b => by
    rw [bOptF]
    rcases bOptF_mem l (if b.value < o.value then o else b) with h | h
    · rw [h]; split
      · exact .inr (by simp)
      · exact .inl rfl
    · exact .inr (by simp [h])
theorem bOpt_mem {l : List Opt} (h : l.length ≠ 0) : bOpt l ∈ l := by
  cases l with
  | nil => simp at h
  | cons a t =>
    rcases bOptF_mem t a with e | e
    · show bOptF a t ∈ _; rw [e]; simp
    · show bOptF a t ∈ _; simp [e]
theorem bOpt_make {r : Rul} {p : Pos} {depth : Int} (h : (results r p).length ≠ 0) : (make r p (bOpt (opts r p depth)).move).2 = 0 ∧ (make r p (bOpt (opts r p depth)).move).1 ∈ results r p := by
  have h1 := bOpt_mem (l := opts r p depth) (by rw [opts_len]; exact h)
  obtain ⟨x, hx, e⟩ := List.mem_map.1 h1
  obtain ⟨m, hm, rfl⟩ := results_fact hx
  have h3 := (make_ok hm).2.2.2.2.1
  have h4 : (bOpt (opts r p depth)).move = m := by rw [← e]; exact h3
  rw [h4]; exact ⟨hm, hx⟩
def lineT (r : Rul) : Nat → Pos → List Int
  | 0, _ => []
  | d + 1, p => if (results r p).length = 0 then [] else (bOpt (opts r p (d + 1 : Nat))).move :: lineT r d (make r p (bOpt (opts r p (d + 1 : Nat))).move).1.next
structure Line (r : Rul) (p0 : Pos) (d0 : Int) (out : List Int) (p : Pos) (depth : Int) : Prop where
  ok : okP r p = true
  lo : 0 ≤ depth
  hi : depth ≤ 8
  sz : size r depth.toNat p ≤ 3000
  eq : out ++ lineT r depth.toNat p = lineT r d0.toNat p0
  ln : (out.length : Int) + depth = d0
theorem Line.zero {r : Rul} {p : Pos} {d : Int} (h : srchC r p d = 0) : Line r p d [] p d := by
  obtain ⟨a, b, c, e⟩ := srchC_ok h
  exact ⟨a, b, c, e, rfl, by simp⟩
theorem Line.done {r : Rul} {p0 p : Pos} {d0 d : Int} {out : List Int} (h : Line r p0 d0 out p d) (hd : d ≤ 0) : lineT r d0.toNat p0 = out := by
  have := h.eq; rw [show d.toNat = 0 by omega, lineT, List.append_nil] at this; exact this.symm
theorem Line.step {r : Rul} {p0 p : Pos} {d0 d : Int} {out : List Int} (h : Line r p0 d0 out p d) (hd : 0 < d) (hl : (results r p).length ≠ 0) :
    Line r p0 d0 (out ++ [(bOpt (opts r p d)).move]) (make r p (bOpt (opts r p d)).move).1.next (d - 1) := by
  have hm := bOpt_make (depth := d) hl
  have e1 : d.toNat = (d - 1).toNat + 1 := by omega
  have e2 : (((d - 1).toNat + 1 : Nat) : Int) = d := by omega
  refine ⟨(make_ok hm.1).2.2.2.1, by omega, by have := h.hi; omega, ?_, ?_, ?_⟩
  · have := size_sub (d := (d - 1).toNat) hm.2
    rw [← e1] at this; have := h.sz; omega
  · have := h.eq
    rw [e1, lineT, if_neg hl, e2] at this
    rw [List.append_assoc]; exact this
  · have := h.ln; simp; omega
def second (m : Int) (s : Int) : List Opt → Int
  | [] => s
  | o :: l => second m (if o.move = m then s else if s < o.value then o.value else s) l
structure SmallP (p : Pos) : Prop where
  sp : p.pits.length ≤ 4194304
  ss : p.stores.length ≤ 4194304
theorem SmallP.zero : SmallP Pos.zero := ⟨by decide, by decide⟩
theorem SmallP.ok {r : Rul} {p : Pos} (h : okP r p = true) : SmallP p := ⟨(okP_len h).1, (okP_len h).2⟩
end Go.Proofs.Ytejnmechnhgmfaa.M

/- Plain mathematics: the facts of a move. -/
import Derived.Test.YtjgohnaobbphpaaGreatDoorZaA1
import Derived.Test.YtjgohnaobbphpaaGreatDoorZaA3
import Derived.Test.YtjgohnaobbphpaaGreatDoorZaA2
set_option linter.unusedSimpArgs false
set_option linter.unusedVariables false
namespace Go.Proofs.YtjgohnaobbphpaaGreatDoor.M
def addF : List Fct → Int → List Fct
  | [], x => [⟨2, x, 1⟩]
  | f :: r, x => if f.place = x then ⟨f.kind, f.place, f.count + 1⟩ :: r else f :: addF r x
def addFs (l : List Fct) (q : List Int) : List Fct := q.foldl addF l
theorem addFs_snoc (l : List Fct) (q : List Int) (x : Int) : addFs l (q ++ [x]) = addF (addFs l q) x := by unfold addFs; rw [List.foldl_append]; rfl
def idxF : List Fct → Int → Option Nat
  | [], _ => none
  | f :: r, x => if f.place = x then some 0 else (idxF r x).map (· + 1)
theorem idxF_some : ∀ {l : List Fct} {x : Int} {i : Nat}, idxF l x = some i → ∃ f, l[i]? = some f ∧ f.place = x ∧ addF l x = l.set i ⟨f.kind, f.place, f.count + 1⟩
  | [], _, _, h => by simp [idxF] at h
  | f :: r, x, i, h => by
    rw [idxF] at h
    by_cases e : f.place = x
    · rw [if_pos e] at h
      injection h with h
      subst h
      exact ⟨f, rfl, e, by rw [addF, if_pos e]; rfl⟩
    · rw [if_neg e] at h
      cases hr : idxF r x with
      | none => rw [hr] at h; simp at h
      | some j =>
        rw [hr] at h
        simp at h
        subst h
        obtain ⟨g, h1, h2, h3⟩ := idxF_some hr
        exact ⟨g, by simpa using h1, h2, by rw [addF, if_neg e, h3]; rfl⟩
theorem idxF_none : ∀ {l : List Fct} {x : Int}, idxF l x = none → addF l x = l ++ [⟨2, x, 1⟩]
  | [], _, _ => rfl
  | f :: r, x, h => by
    rw [idxF] at h
    by_cases e : f.place = x
    · rw [if_pos e] at h; cases h
    · rw [if_neg e] at h
      cases hr : idxF r x with
      | none => rw [addF, if_neg e, idxF_none hr]; rfl
      | some j => rw [hr] at h; simp at h
theorem idxF_add : ∀ (l : List Fct) (x y : Int), idxF (addF l x) y = match idxF l y with
    | some i => some i
    | none => if x = y then some l.length else none
  | [], x, y => by
    simp only [addF, idxF]
    split <;> rfl
  | f :: r, x, y => by
    rw [addF]
    by_cases e : f.place = x
    · rw [if_pos e, idxF, idxF]
      by_cases e2 : f.place = y
      · simp [e2]
      · have : ¬ x = y := fun e3 => e2 (e.trans e3)
        cases hr : idxF r y <;> simp [e2, this]
    · rw [if_neg e, idxF, idxF, idxF_add r x y]
      by_cases e2 : f.place = y
      · simp [e2]
      · cases hr : idxF r y with
        | some j => simp [e2]
        | none => by_cases e3 : x = y <;> simp [e2, e3]
theorem addF_len (l : List Fct) (x : Int) : (addF l x).length ≤ l.length + 1 := by
  induction l with
  | nil => simp [addF]
  | cons f r ih =>
    rw [addF]; split
    · simp
    · simp only [List.length_cons]; omega
def MapF_ (g : List (Int × Int)) (off : Int) (l : List Fct) : Prop := ∀ x, mget g x = (idxF l x).map fun i => off + (i : Int)
theorem MapF_.zero (off : Int) : MapF_ [] off [] := fun x => rfl
theorem MapF_.hit {g : List (Int × Int)} {off : Int} {l : List Fct} (h : MapF_ g off l) {x : Int} (hx : mhas g x = true) : ∃ (i : Nat) (f : Fct), mval g x = off + (i : Int) ∧ l[i]? = some f ∧ addF l x = l.set i ⟨f.kind, f.place, f.count + 1⟩ ∧ MapF_ g off (addF l x) := by
  unfold mhas at hx
  rw [h x] at hx
  cases hi : idxF l x with
  | none => rw [hi] at hx; simp at hx
  | some i =>
    obtain ⟨f, h1, h2, h3⟩ := idxF_some hi
    refine ⟨i, f, by unfold mval; rw [h x, hi]; rfl, h1, h3, fun y => ?_⟩
    rw [h y, idxF_add]
    cases hy : idxF l y with
    | some j => rfl
    | none =>
      have : ¬ x = y := fun e => by rw [← e, hi] at hy; cases hy
      simp [this]
theorem MapF_.miss {g : List (Int × Int)} {off : Int} {l : List Fct} (h : MapF_ g off l) {x : Int} (hx : mhas g x = false) : addF l x = l ++ [⟨2, x, 1⟩] ∧ MapF_ (mput g x (off + (l.length : Int))) off (addF l x) := by
  unfold mhas at hx
  rw [h x] at hx
  cases hi : idxF l x with
  | some i => rw [hi] at hx; simp at hx
  | none =>
    refine ⟨idxF_none hi, fun y => ?_⟩
    rw [mget_put, idxF_add, h y]
    by_cases e : x = y
    · subst e; rw [if_pos rfl, hi]; simp
    · rw [if_neg e]
      cases hy : idxF l y <;> simp [e]
structure Lps where
  pits : List Int
  frm : Int
  left : Int
  done : List Fct
  cur : List Fct
def incP (ps : List Int) (x : Int) : List Int := if 0 ≤ x then setI ps x (getI ps x + 1) else ps
def lstep (s : Lps) (x : Int) : Lps :=
  if s.left = 0 then ⟨incP (setI s.pits s.frm 0) x, x, getI s.pits s.frm - 1, (s.done ++ s.cur) ++ [⟨1, s.frm, getI s.pits s.frm⟩], addF [] x⟩
  else ⟨incP s.pits x, x, s.left - 1, s.done, addF s.cur x⟩
def lsteps (s : Lps) (q : List Int) : Lps := q.foldl lstep s
theorem lsteps_app (s : Lps) (a b : List Int) : lsteps s (a ++ b) = lsteps (lsteps s a) b := by unfold lsteps; rw [List.foldl_append]
theorem lsteps_snoc (s : Lps) (a : List Int) (x : Int) : lsteps s (a ++ [x]) = lstep (lsteps s a) x := by rw [lsteps_app]; rfl
theorem sow_steps (r : Rul) (pl frm : Int) : ∀ (n : Nat) (place : Int) (ps ss path : List Int), ∃ q, (sow r pl frm n place ps ss path).2.2.2 = path ++ q ∧ q.length = n ∧
    ∀ (d c : List Fct), lsteps ⟨ps, place, (n : Int), d, c⟩ q = ⟨(sow r pl frm n place ps ss path).2.1, (sow r pl frm n place ps ss path).1, 0, d, addFs c q⟩
  | 0, place, ps, ss, path => ⟨[], by simp [sow], rfl, fun d c => rfl⟩
  | n + 1, place, ps, ss, path => by
    rw [sow]
    split
    · rename_i hx
      obtain ⟨q, h1, h2, h3⟩ := sow_steps r pl frm n (nxt r pl frm place) ps (setI ss pl (getI ss pl + 1)) (path ++ [nxt r pl frm place])
      refine ⟨nxt r pl frm place :: q, by rw [h1]; simp, by simp [h2], fun d c => ?_⟩
      have e : lstep ⟨ps, place, ((n + 1 : Nat) : Int), d, c⟩ (nxt r pl frm place) = ⟨ps, nxt r pl frm place, (n : Int), d, addF c (nxt r pl frm place)⟩ := by
        unfold lstep
        rw [if_neg (by show ¬ ((n + 1 : Nat) : Int) = 0; omega)]
        dsimp only
        unfold incP
        rw [if_neg (by omega), show ((n + 1 : Nat) : Int) - 1 = (n : Int) by omega]
      show lsteps (lstep _ _) q = _
      rw [e, h3]; rfl
    · rename_i hx
      obtain ⟨q, h1, h2, h3⟩ := sow_steps r pl frm n (nxt r pl frm place) (setI ps (nxt r pl frm place) (getI ps (nxt r pl frm place) + 1)) ss (path ++ [nxt r pl frm place])
      refine ⟨nxt r pl frm place :: q, by rw [h1]; simp, by simp [h2], fun d c => ?_⟩
      have e : lstep ⟨ps, place, ((n + 1 : Nat) : Int), d, c⟩ (nxt r pl frm place) = ⟨setI ps (nxt r pl frm place) (getI ps (nxt r pl frm place) + 1), nxt r pl frm place, (n : Int), d, addF c (nxt r pl frm place)⟩ := by
        unfold lstep
        rw [if_neg (by show ¬ ((n + 1 : Nat) : Int) = 0; omega)]
        dsimp only
        unfold incP
        rw [if_pos (by omega), show ((n + 1 : Nat) : Int) - 1 = (n : Int) by omega]
      show lsteps (lstep _ _) q = _
      rw [e, h3]; rfl
theorem lap_steps (r : Rul) (pl frm : Int) (s : Sw) (path : List Int) (hp : 0 < getI s.pits frm) : ∃ q, (lap r pl frm s path).2 = path ++ q ∧ (q.length : Int) = getI s.pits frm ∧
    ∀ (d c : List Fct), lsteps ⟨s.pits, frm, 0, d, c⟩ q = ⟨(lap r pl frm s path).1.pits, (lap r pl frm s path).1.last, 0, (d ++ c) ++ [⟨1, frm, getI s.pits frm⟩], addFs [] q⟩ := by
  obtain ⟨q, h1, h2, h3⟩ := sow_steps r pl frm (getI s.pits frm).toNat frm (setI s.pits frm 0) s.stores path
  refine ⟨q, h1, by omega, fun d c => ?_⟩
  have h4 := h3 ((d ++ c) ++ [⟨1, frm, getI s.pits frm⟩]) []
  cases q with
  | nil => simp at h2; omega
  | cons x q =>
    have e : lstep ⟨s.pits, frm, 0, d, c⟩ x = lstep ⟨setI s.pits frm 0, frm, ((getI s.pits frm).toNat : Int), (d ++ c) ++ [⟨1, frm, getI s.pits frm⟩], []⟩ x := by
      unfold lstep
      rw [if_pos rfl, if_neg (by show ¬ (((getI s.pits frm).toNat : Nat) : Int) = 0; omega)]
      dsimp only
      rw [show (((getI s.pits frm).toNat : Nat) : Int) - 1 = getI s.pits frm - 1 by omega]
    show lsteps (lstep _ _) q = _
    rw [e]
    exact h4
def lap0 (p : Pos) (frm : Int) : Lps := ⟨p.pits, frm, 0, [], []⟩
def lapsF (r : Rul) (p : Pos) (move : Int) : List Fct :=
  (lsteps (lap0 p (p.player * r.pits + move)) (sowMove r p move).2.2).done ++ (lsteps (lap0 p (p.player * r.pits + move)) (sowMove r p move).2.2).cur
def capF (r : Rul) (p : Pos) (s : Sw) : List Fct := (captured r s p.player).map fun k => ⟨3, k, getI s.pits k⟩
def spaF (r : Rul) (p : Pos) (s : Sw) : List Fct := if captured r s p.player = [] ∧ taken r s p.player ≠ [] then [⟨4, s.last, isum ((taken r s p.player).map (getI s.pits))⟩] else []
def endF (b : Bool) : Fct := ⟨if b = true then 5 else 6, 0, 0⟩
def factsF (r : Rul) (p : Pos) (move : Int) : List Fct :=
  ((lapsF r p move ++ capF r p (sowMove r p move).2.1) ++ spaF r p (sowMove r p move).2.1) ++ [endF (make r p move).1.again]
structure FacI (r : Rul) (p : Pos) (frm0 frm : Int) (sw : Sw) (path : List Int) (out : List Fct) : Prop where
  st : ∃ d c, lsteps (lap0 p frm0) path = ⟨sw.pits, frm, 0, d, c⟩ ∧ out = d ++ c
theorem FacI.zero (r : Rul) (p : Pos) (frm : Int) : FacI r p frm frm ⟨p.pits, p.stores, 0, 0⟩ [] [] := ⟨⟨[], [], rfl, rfl⟩⟩
theorem FacI.lap {r : Rul} {p : Pos} {frm0 frm : Int} {sw : Sw} {path : List Int} {out : List Fct} (h : FacI r p frm0 frm sw path out) (hp : 0 < getI sw.pits frm) :
    FacI r p frm0 (M.lap r p.player frm sw path).1.last (M.lap r p.player frm sw path).1 (M.lap r p.player frm sw path).2 ((out ++ [⟨1, frm, getI sw.pits frm⟩]) ++ addFs [] ((M.lap r p.player frm sw path).2.drop path.length)) := by
  obtain ⟨d, c, h1, h2⟩ := h.st
  obtain ⟨q, h3, h4, h5⟩ := lap_steps r p.player frm sw path hp
  refine ⟨⟨(d ++ c) ++ [⟨1, frm, getI sw.pits frm⟩], addFs [] q, ?_, ?_⟩⟩
  · rw [h3, lsteps_app, h1]; exact h5 d c
  · rw [h3, List.drop_left, h2]
theorem FacI.out {r : Rul} {p : Pos} {move : Int} {frm : Int} {sw : Sw} {path : List Int} {out : List Fct} (h : FacI r p (p.player * r.pits + move) frm sw path out) (hp : path = (sowMove r p move).2.2) : out = lapsF r p move := by
  obtain ⟨d, c, h1, h2⟩ := h.st
  unfold lapsF
  rw [← hp, h1, h2]
def CntB (l : List Fct) (k : Int) : Prop := ∀ f ∈ l, 1 ≤ f.count ∧ f.count ≤ k
theorem CntB.add {x : Int} : ∀ {l : List Fct} {k : Int}, 0 ≤ k → CntB l k → CntB (addF l x) (k + 1)
  | [], k, hk, _ => fun f hf => by rw [addF, List.mem_singleton] at hf; subst hf; exact ⟨by show (1 : Int) ≤ 1; decide, by show (1 : Int) ≤ k + 1; omega⟩
  | g :: l, k, hk, h => by
    have hl : CntB l k := fun f hf => h f (by simp [hf])
    have hg := h g (by simp)
    rw [addF]
    split
    · intro f hf
      rcases List.mem_cons.1 hf with rfl | hf
      · exact ⟨by show 1 ≤ g.count + 1; omega, by show g.count + 1 ≤ k + 1; omega⟩
      · have := hl f hf; omega
    · intro f hf
      rcases List.mem_cons.1 hf with rfl | hf
      · omega
      · exact CntB.add hk hl f hf
theorem tel_hit {base cur F : List Fct} {g : List (Int × Int)} {x k : Int} (hF : F = base ++ cur) (h : MapF_ g (base.length : Int) cur) (hc : CntB cur k) (hx : mhas g x = true) :
    0 ≤ mval g x ∧ mval g x < (F.length : Int) ∧ (1 ≤ (fct F (mval g x).toNat).count ∧ (fct F (mval g x).toNat).count ≤ k) ∧ F.set (mval g x).toNat ⟨(fct F (mval g x).toNat).kind, (fct F (mval g x).toNat).place, (fct F (mval g x).toNat).count + 1⟩ = base ++ addF cur x ∧ MapF_ g (base.length : Int) (addF cur x) := by
  obtain ⟨i, f, h1, h2, h3, h4⟩ := h.hit hx
  obtain ⟨hi, hf⟩ := List.getElem?_eq_some_iff.1 h2
  have hn : (mval g x).toNat = base.length + i := by omega
  have hg : fct F (mval g x).toNat = f := by
    rw [hn, hF]; unfold fct
    rw [List.getD_eq_getElem?_getD, List.getElem?_append_right (by omega), Nat.add_sub_cancel_left, h2]; rfl
  subst hF
  refine ⟨by omega, by rw [List.length_append]; omega, ?_, ?_, h4⟩
  · rw [hg]; exact hc f (List.mem_of_getElem? h2)
  · rw [hg, hn, List.set_append_right _ _ (by omega), Nat.add_sub_cancel_left, h3]
theorem tel_miss {base cur F : List Fct} {g : List (Int × Int)} {x : Int} (hF : F = base ++ cur) (h : MapF_ g (base.length : Int) cur) (hx : mhas g x = false) :
    fct (F ++ [(⟨2, x, 0⟩ : Fct)]) F.length = ⟨2, x, 0⟩ ∧ (F ++ [(⟨2, x, 0⟩ : Fct)]).set F.length ⟨2, x, 0 + 1⟩ = base ++ addF cur x ∧ MapF_ (mput g x (F.length : Int)) (base.length : Int) (addF cur x) := by
  obtain ⟨h1, h2⟩ := h.miss hx
  subst hF
  refine ⟨?_, ?_, ?_⟩
  · unfold fct; rw [List.getD_eq_getElem?_getD, List.getElem?_append_right (Nat.le_refl _)]; simp
  · rw [List.set_append_right _ _ (Nat.le_refl _), Nat.sub_self, h1, List.append_assoc]; rfl
  · rw [List.length_append]
    have : ((base.length + cur.length : Nat) : Int) = (base.length : Int) + (cur.length : Int) := by omega
    rw [this]; exact h2
structure RunI (r : Rul) (p : Pos) (frm0 frm : Int) (sw : Sw) (path : List Int) (more : Bool) : Prop where
  go : more = true → mvT r p.player (100 - sw.laps).toNat frm sw path = mvT r p.player 100 frm0 ⟨p.pits, p.stores, 0, 0⟩ [] ∧ 0 ≤ frm ∧ frm < 2 * r.pits ∧ 0 < getI sw.pits frm ∧ sw.laps ≤ 99
  fin : more = false → mvT r p.player 100 frm0 ⟨p.pits, p.stores, 0, 0⟩ [] = (true, sw, path)
  g : Good r sw.pits sw.stores 0
  l0 : 0 ≤ sw.laps ∧ sw.laps ≤ 100
  pl : (path.length : Int) ≤ 96 * sw.laps
theorem RunI.zero {r : Rul} {p : Pos} {frm : Int} (h0 : 0 ≤ frm) (h1 : frm < 2 * r.pits) (h2 : 0 < getI p.pits frm) (hG : Good r p.pits p.stores 0) : RunI r p frm frm ⟨p.pits, p.stores, 0, 0⟩ [] true :=
  { go := fun _ => ⟨rfl, h0, h1, h2, by show (0 : Int) ≤ 99; decide⟩, fin := fun h => absurd h (by decide), g := hG, l0 := (by show (0 : Int) ≤ 0 ∧ (0 : Int) ≤ 100; decide), pl := (by show ((0 : Nat) : Int) ≤ 96 * 0; decide) }
theorem RunI.lap {r : Rul} {p : Pos} {frm0 frm : Int} {sw : Sw} {path : List Int} (h : RunI r p frm0 frm sw path true) (r1 : r.pits ≤ 8) (r0 : 2 ≤ r.pits) (r2 : p.player = 0 ∨ p.player = 1) (hT : (mvT r p.player 100 frm0 ⟨p.pits, p.stores, 0, 0⟩ []).1 = true) :
    RunI r p frm0 (M.lap r p.player frm sw path).1.last (M.lap r p.player frm sw path).1 (M.lap r p.player frm sw path).2 (M.more r (M.lap r p.player frm sw path).1) := by
  obtain ⟨g1, g2, g3, g4, g5⟩ := h.go rfl
  obtain ⟨k1, k2⟩ := h.l0
  obtain ⟨ha, hb1, hc, hd, he, hf⟩ := M.lap_keeps r path r1 r0 r2 g2 g3 h.g
  have hpl := h.pl
  have hn : (100 - sw.laps).toNat = (99 - sw.laps).toNat + 1 := by omega
  refine ⟨fun hm => ?_, fun hm => ?_, ha, by omega, by omega⟩
  · rw [hn, mvT_yes hm] at g1
    have hm2 := more_get hm
    have hl : sw.laps ≤ 98 := by
      by_cases e : sw.laps ≤ 98
      · exact e
      · exfalso
        have e2 : (99 - sw.laps).toNat = 0 := by omega
        rw [e2, mvT] at g1
        rw [← g1] at hT
        exact absurd (show false = true from hT) (by decide)
    refine ⟨?_, hm2.1, hc, by omega, by omega⟩
    rw [← g1, hf, show (100 - (sw.laps + 1)).toNat = (99 - sw.laps).toNat by omega]
  · rw [hn, mvT_no hm] at g1
    exact g1.symm
theorem RunI.mv {r : Rul} {p : Pos} {move frm : Int} {sw : Sw} {path : List Int} (h : RunI r p (p.player * r.pits + move) frm sw path false) (hs : (sowMove r p move).1 = 0) : (sowMove r p move).2.1 = sw ∧ (sowMove r p move).2.2 = path := by
  have h1 := h.fin rfl
  by_cases hc : sowCode r p move = 0
  · have := sowMove_yes hc (by rw [h1])
    rw [this, h1]; exact ⟨rfl, rfl⟩
  · rw [sowMove_code hc] at hs; exact absurd hs hc
def factsR (r : Rul) (p : Pos) (move : Int) : List Fct × Int := if (make r p move).2 = 0 then (factsF r p move, 0) else ([], (make r p move).2)
theorem factsR_n {r : Rul} {p : Pos} {move : Int} (h : ¬ (make r p move).2 = 0) : factsR r p move = ([], (make r p move).2) := if_neg h
theorem factsR_y {r : Rul} {p : Pos} {move : Int} (h : (make r p move).2 = 0) : factsR r p move = (factsF r p move, 0) := if_pos h
theorem cap_step {l : List Int} {ps : List Int} {k : Nat} {y : Int} {base out : List Fct} (h : out = base ++ (l.take k).map fun x => ⟨3, x, getI ps x⟩) (hy : l[k]? = some y) : out ++ [⟨3, y, getI ps y⟩] = base ++ (l.take (k + 1)).map fun x => (⟨3, x, getI ps x⟩ : Fct) := by
  rw [List.take_add_one, hy, h, List.map_append, ← List.append_assoc]; rfl
theorem mvT_true {r : Rul} {p : Pos} {move : Int} (hs : (sowMove r p move).1 = 0) : (mvT r p.player 100 (p.player * r.pits + move) ⟨p.pits, p.stores, 0, 0⟩ []).1 = true := by
  by_cases hc : sowCode r p move = 0
  · cases hm : (mvT r p.player 100 (p.player * r.pits + move) ⟨p.pits, p.stores, 0, 0⟩ []).1 with
    | true => rfl
    | false => rw [sowMove_end hc hm] at hs; exact absurd hs (by decide)
  · rw [sowMove_code hc] at hs; exact absurd hs hc
structure PI (r : Rul) (S : Lps) : Prop where
  g : ∃ ss, Good r S.pits ss S.left
  f : -1 ≤ S.frm ∧ S.frm < 2 * r.pits
  z : S.left = 0 → 0 ≤ S.frm ∧ 0 < getI S.pits S.frm
theorem sow_pre (r : Rul) (pl frm : Int) (hb : r.pits ≤ 8) (hc : 2 ≤ r.pits) (hp : pl = 0 ∨ pl = 1) (f0 : 0 ≤ frm) : ∀ (n : Nat) (place : Int) (ps ss path q : List Int), Good r ps ss (n : Int) → -1 ≤ place → place < 2 * r.pits →
    (sow r pl frm n place ps ss path).2.2.2 = path ++ q → ∀ (d c : List Fct) (j : Nat), j < n → PI r (lsteps ⟨ps, place, (n : Int), d, c⟩ (q.take j))
  | 0, _, _, _, _, _, _, _, _, _, _, _, j, hj => by omega
  | n + 1, place, ps, ss, path, q, hG, p0, p1, hq, d, c, 0, _ => ⟨⟨ss, hG⟩, ⟨p0, p1⟩, fun h => by exfalso; have h : ((n + 1 : Nat) : Int) = 0 := h; omega⟩
  | n + 1, place, ps, ss, path, q, hG, p0, p1, hq, d, c, j + 1, hj => by
    have hbd := nxt_bd r (frm := frm) hb hc hp p0 f0
    rw [sow] at hq
    have hs0 := hG.store pl
    split at hq
    · rename_i hx
      obtain ⟨q', h1, h2, h3⟩ := sow_steps r pl frm n (nxt r pl frm place) ps (setI ss pl (getI ss pl + 1)) (path ++ [nxt r pl frm place])
      rw [h1] at hq
      have hqq : q = nxt r pl frm place :: q' := by
        rw [List.append_assoc] at hq; exact (List.append_cancel_left hq).symm
      have e : lstep ⟨ps, place, ((n + 1 : Nat) : Int), d, c⟩ (nxt r pl frm place) = ⟨ps, nxt r pl frm place, (n : Int), d, addF c (nxt r pl frm place)⟩ := by
        unfold lstep
        rw [if_neg (by show ¬ ((n + 1 : Nat) : Int) = 0; omega)]
        dsimp only
        unfold incP
        rw [if_neg (by omega), show ((n + 1 : Nat) : Int) - 1 = (n : Int) by omega]
      rw [hqq, List.take_succ_cons]
      show PI r (lsteps (lstep _ _) _)
      rw [e]
      have hG2 := hG.putStore (k := pl) (by omega) (by omega) (by omega)
      rw [show ((n + 1 : Nat) : Int) - 1 = (n : Int) by omega] at hG2
      exact sow_pre r pl frm hb hc hp f0 n _ ps _ _ q' hG2 hbd.1 hbd.2 h1 d _ j (by omega)
    · rename_i hx
      obtain ⟨q', h1, h2, h3⟩ := sow_steps r pl frm n (nxt r pl frm place) (setI ps (nxt r pl frm place) (getI ps (nxt r pl frm place) + 1)) ss (path ++ [nxt r pl frm place])
      rw [h1] at hq
      have hqq : q = nxt r pl frm place :: q' := by
        rw [List.append_assoc] at hq; exact (List.append_cancel_left hq).symm
      have e : lstep ⟨ps, place, ((n + 1 : Nat) : Int), d, c⟩ (nxt r pl frm place) = ⟨setI ps (nxt r pl frm place) (getI ps (nxt r pl frm place) + 1), nxt r pl frm place, (n : Int), d, addF c (nxt r pl frm place)⟩ := by
        unfold lstep
        rw [if_neg (by show ¬ ((n + 1 : Nat) : Int) = 0; omega)]
        dsimp only
        unfold incP
        rw [if_pos (by omega), show ((n + 1 : Nat) : Int) - 1 = (n : Int) by omega]
      rw [hqq, List.take_succ_cons]
      show PI r (lsteps (lstep _ _) _)
      rw [e]
      have hG2 := hG.putPit (k := nxt r pl frm place) (by omega) (by omega) hbd.2
      rw [show ((n + 1 : Nat) : Int) - 1 = (n : Int) by omega] at hG2
      exact sow_pre r pl frm hb hc hp f0 n _ _ ss _ q' hG2 hbd.1 hbd.2 h1 d _ j (by omega)
theorem lap_pre {r : Rul} {pl frm : Int} (hb : r.pits ≤ 8) (hc : 2 ≤ r.pits) (hp : pl = 0 ∨ pl = 1) (f0 : 0 ≤ frm) (f1 : frm < 2 * r.pits) {s : Sw} {path q : List Int} (hG : Good r s.pits s.stores 0) (h0 : 0 < getI s.pits frm) (hq : (lap r pl frm s path).2 = path ++ q) (d c : List Fct) (j : Nat) (hj : (j : Int) < getI s.pits frm) :
    PI r (lsteps ⟨s.pits, frm, 0, d, c⟩ (q.take j)) := by
  cases j with
  | zero => exact ⟨⟨s.stores, hG⟩, ⟨by show -1 ≤ frm; omega, f1⟩, fun _ => ⟨f0, h0⟩⟩
  | succ j =>
    have hG2 := hG.takeUp f0 f1
    have hn : (((getI s.pits frm).toNat : Nat) : Int) = getI s.pits frm := by omega
    have := sow_pre r pl frm hb hc hp f0 (getI s.pits frm).toNat frm (setI s.pits frm 0) s.stores path q (by rw [hn]; exact hG2) (by omega) f1 hq ((d ++ c) ++ [⟨1, frm, getI s.pits frm⟩]) [] (j + 1) (by omega)
    cases q with
    | nil =>
      obtain ⟨q2, h1, h2, _⟩ := lap_steps r pl frm s path h0
      rw [h1] at hq
      have := List.append_cancel_left hq
      rw [this] at h2; simp at h2; omega
    | cons x q =>
      have e : lstep ⟨s.pits, frm, 0, d, c⟩ x = lstep ⟨setI s.pits frm 0, frm, ((getI s.pits frm).toNat : Int), (d ++ c) ++ [⟨1, frm, getI s.pits frm⟩], []⟩ x := by
        unfold lstep
        rw [if_pos rfl, if_neg (by show ¬ (((getI s.pits frm).toNat : Nat) : Int) = 0; omega)]
        dsimp only
        rw [hn]
      rw [List.take_succ_cons] at this ⊢
      show PI r (lsteps (lstep _ _) _)
      rw [e]
      exact this
theorem mvT_pre {r : Rul} {pl : Int} (hb : r.pits ≤ 8) (hc : 2 ≤ r.pits) (hp : pl = 0 ∨ pl = 1) : ∀ (n : Nat) (frm : Int) (s : Sw) (path : List Int), 0 ≤ frm → frm < 2 * r.pits → Good r s.pits s.stores 0 → 0 < getI s.pits frm → (mvT r pl n frm s path).1 = true →
    ∃ q, (mvT r pl n frm s path).2.2 = path ++ q ∧ ∀ (d c : List Fct) (j : Nat), j < q.length → PI r (lsteps ⟨s.pits, frm, 0, d, c⟩ (q.take j))
  | 0, frm, s, path, _, _, _, _, h => by simp [mvT] at h
  | n + 1, frm, s, path, f0, f1, hG, h0, h => by
    obtain ⟨q1, h1, h2, h3⟩ := lap_steps r pl frm s path h0
    obtain ⟨ha, hb1, hc1, hd, he, hf⟩ := lap_keeps r path hb hc hp f0 f1 hG
    cases hm : more r (lap r pl frm s path).1 with
    | false =>
      rw [mvT_no hm]
      exact ⟨q1, h1, fun d c j hj => lap_pre hb hc hp f0 f1 hG h0 h1 d c j (by omega)⟩
    | true =>
      rw [mvT_yes hm] at h ⊢
      have hm2 := more_get hm
      obtain ⟨q2, h4, h5⟩ := mvT_pre hb hc hp n _ _ _ hm2.1 hc1 ha (by omega) h
      refine ⟨q1 ++ q2, by rw [h4, h1, List.append_assoc], fun d c j hj => ?_⟩
      rw [List.length_append] at hj
      by_cases hj1 : j < q1.length
      · rw [List.take_append_of_le_length (by omega)]
        exact lap_pre hb hc hp f0 f1 hG h0 h1 d c j (by omega)
      · rw [List.take_append, List.take_of_length_le (by omega), lsteps_app, h3 d c]
        exact h5 _ _ (j - q1.length) (by omega)
theorem move_pre {r : Rul} {p : Pos} {move : Int} (hs : (sowMove r p move).1 = 0) : ∀ j : Nat, j < (sowMove r p move).2.2.length → PI r (lsteps (lap0 p (p.player * r.pits + move)) ((sowMove r p move).2.2.take j)) := by
  have hc : sowCode r p move = 0 := by
    by_cases e : sowCode r p move = 0
    · exact e
    · rw [sowMove_code e] at hs; exact hs
  obtain ⟨hok, m0, m1, hg⟩ := sowCode_ok hc
  obtain ⟨g1, g2, g3, g4, g5, g6, g7⟩ := okP_bd hok
  have hq := mul_bd g7 g1 g2
  have hG := Good.of_ok hok
  have hT := mvT_true hs
  obtain ⟨q, h1, h2⟩ := mvT_pre g2 g1 g7 100 (p.player * r.pits + move) ⟨p.pits, p.stores, 0, 0⟩ [] (by omega) (by omega) hG hg hT
  have e := (sowMove_yes hc hT)
  rw [e]
  dsimp only
  rw [h1, List.nil_append]
  exact h2 [] []
def sowL (l : List Fct) (b : Nat) (x : Int) : List Fct := l.take b ++ addF (l.drop b) x
def NoF (l : List Fct) (b i : Nat) (x : Int) : Prop := ∀ j, b ≤ j → j < i → (fct l j).place ≠ x
theorem NoF.zero (l : List Fct) (b : Nat) (x : Int) : NoF l b b x := fun j h1 h2 => absurd h1 (by omega)
theorem NoF.step {l : List Fct} {b i : Nat} {x : Int} (h : NoF l b i x) (hx : (fct l i).place ≠ x) : NoF l b (i + 1) x := fun j h1 h2 => by
  by_cases e : j = i
  · rw [e]; exact hx
  · exact h j h1 (by omega)
theorem addF_hit : ∀ {l : List Fct} {x : Int} {n : Nat}, (∀ j, j < n → (fct l j).place ≠ x) → n < l.length → (fct l n).place = x → addF l x = l.set n ⟨(fct l n).kind, (fct l n).place, (fct l n).count + 1⟩
  | [], _, _, _, h, _ => by simp at h
  | f :: l, x, 0, _, _, hx => by
    have hx : f.place = x := hx
    rw [addF, if_pos hx]; rfl
  | f :: l, x, n + 1, h, hl, hx => by
    have h0 : f.place ≠ x := h 0 (by omega)
    have := addF_hit (l := l) (x := x) (n := n) (fun j hj => h (j + 1) (by omega)) (by simpa using hl) hx
    rw [addF, if_neg h0, this]; rfl
theorem addF_miss : ∀ {l : List Fct} {x : Int}, (∀ j, j < l.length → (fct l j).place ≠ x) → addF l x = l ++ [⟨2, x, 1⟩]
  | [], _, _ => rfl
  | f :: l, x, h => by
    have h0 : f.place ≠ x := h 0 (by simp)
    have := addF_miss (l := l) (x := x) (fun j hj => h (j + 1) (by simpa using hj))
    rw [addF, if_neg h0, this]; rfl
theorem fct_drop (l : List Fct) (b j : Nat) : fct (l.drop b) j = fct l (b + j) := by
  unfold fct; rw [List.getD_eq_getElem?_getD, List.getD_eq_getElem?_getD, List.getElem?_drop]
theorem sowL_hit {l : List Fct} {b i : Nat} {x : Int} (h : NoF l b i x) (hb : b ≤ i) (hi : i < l.length) (hx : (fct l i).place = x) : l.set i ⟨(fct l i).kind, (fct l i).place, (fct l i).count + 1⟩ = sowL l b x := by
  have e : b + (i - b) = i := by omega
  have := addF_hit (l := l.drop b) (x := x) (n := i - b) (fun j hj => by rw [fct_drop]; exact h (b + j) (by omega) (by omega)) (by rw [List.length_drop]; omega) (by rw [fct_drop, e]; exact hx)
  unfold sowL
  rw [this, fct_drop, e]
  have e3 : ∀ v : Fct, l.set i v = l.take b ++ (l.drop b).set (i - b) v := fun v => by
    conv => lhs; rw [← List.take_append_drop b l]
    rw [List.set_append_right _ _ (by rw [List.length_take]; omega), List.length_take, Nat.min_eq_left (by omega)]
  exact e3 _
theorem sowL_miss {l : List Fct} {b i : Nat} {x : Int} (h : NoF l b i x) (hb : b ≤ l.length) (hi : l.length ≤ i) : l ++ [⟨2, x, 1⟩] = sowL l b x := by
  have := addF_miss (l := l.drop b) (x := x) (fun j hj => by rw [List.length_drop] at hj; rw [fct_drop]; exact h (b + j) (by omega) (by omega))
  unfold sowL
  rw [this, ← List.append_assoc, List.take_append_drop]
theorem sowL_at (d c : List Fct) (x : Int) : sowL (d ++ c) d.length x = d ++ addF c x := by
  unfold sowL; rw [List.take_left, List.drop_left]
def CB (l : List Fct) (n : Int) : Prop := ∀ f ∈ l, 0 ≤ f.count ∧ f.count ≤ n
theorem CB.nil (n : Int) : CB [] n := fun f h => by simp at h
theorem CB.mono {l : List Fct} {n m : Int} (h : CB l n) (hm : n ≤ m) : CB l m := fun f hf => ⟨(h f hf).1, Int.le_trans (h f hf).2 hm⟩
theorem CB.app {l : List Fct} {n : Int} {f : Fct} (h : CB l n) (h0 : 0 ≤ f.count) (hf : f.count ≤ n) : CB (l ++ [f]) n := fun g hg => by
  rcases List.mem_append.1 hg with hg | hg
  · exact h g hg
  · rw [List.mem_singleton.1 hg]; exact ⟨h0, hf⟩
theorem CB.add {x : Int} : ∀ {l : List Fct} {n : Int}, 0 ≤ n → CB l n → CB (addF l x) (n + 1)
  | [], n, hn, _ => fun f hf => by rw [addF, List.mem_singleton] at hf; subst hf; exact ⟨by show (0 : Int) ≤ 1; decide, by show (1 : Int) ≤ n + 1; omega⟩
  | g :: l, n, hn, h => by
    have hl : CB l n := fun f hf => h f (by simp [hf])
    have hg := h g (by simp)
    rw [addF]
    split
    · intro f hf
      rcases List.mem_cons.1 hf with rfl | hf
      · exact ⟨by show 0 ≤ g.count + 1; omega, by show g.count + 1 ≤ n + 1; omega⟩
      · have := hl f hf; omega
    · intro f hf
      rcases List.mem_cons.1 hf with rfl | hf
      · omega
      · exact CB.add hn hl f hf
theorem CB.sow {l : List Fct} {n : Int} (h : CB l n) (hn : 0 ≤ n) (b : Nat) (x : Int) : CB (sowL l b x) (n + 1) := fun f hf => by
  unfold sowL at hf
  rcases List.mem_append.1 hf with hf | hf
  · have := h f (List.mem_of_mem_take hf); omega
  · exact CB.add (l := l.drop b) hn (fun g hg => h g (List.mem_of_mem_drop hg)) f hf
theorem CB.fct {l : List Fct} {n : Int} (h : CB l n) {i : Nat} (hi : i < l.length) : 0 ≤ (fct l i).count ∧ (fct l i).count ≤ n := h _ (List.mem_of_getElem? (fct_get hi))
theorem sowL_len (l : List Fct) (b : Nat) (x : Int) : (sowL l b x).length ≤ l.length + 1 := by
  have := addF_len (l.drop b) x
  unfold sowL
  rw [List.length_append, List.length_take]; rw [List.length_drop] at this; omega
section
variable {S0 : Lps} {path : List Int} {i : Nat} {ps : List Int} {frm left : Int} {d c : List Fct}
theorem lst_get (h : lsteps S0 (path.take i) = ⟨ps, frm, left, d, c⟩) (hi : i < path.length) : lsteps S0 (path.take (i + 1)) = lstep ⟨ps, frm, left, d, c⟩ (nth path i) := by
  rw [take_nth hi, lsteps_snoc, h]
theorem lst_zp (h : lsteps S0 (path.take i) = ⟨ps, frm, left, d, c⟩) (hi : i < path.length) (hl : left = 0) (hx : 0 ≤ nth path i) :
    lsteps S0 (path.take (i + 1)) = ⟨setI (setI ps frm 0) (nth path i) (getI (setI ps frm 0) (nth path i) + 1), nth path i, getI ps frm - 1, (d ++ c) ++ [⟨1, frm, getI ps frm⟩], addF [] (nth path i)⟩ := by
  rw [lst_get h hi]; unfold lstep incP; rw [if_pos hl]; dsimp only; rw [if_pos hx]
theorem lst_zn (h : lsteps S0 (path.take i) = ⟨ps, frm, left, d, c⟩) (hi : i < path.length) (hl : left = 0) (hx : ¬ 0 ≤ nth path i) :
    lsteps S0 (path.take (i + 1)) = ⟨setI ps frm 0, nth path i, getI ps frm - 1, (d ++ c) ++ [⟨1, frm, getI ps frm⟩], addF [] (nth path i)⟩ := by
  rw [lst_get h hi]; unfold lstep incP; rw [if_pos hl]; dsimp only; rw [if_neg hx]
theorem lst_np (h : lsteps S0 (path.take i) = ⟨ps, frm, left, d, c⟩) (hi : i < path.length) (hl : ¬ left = 0) (hx : 0 ≤ nth path i) :
    lsteps S0 (path.take (i + 1)) = ⟨setI ps (nth path i) (getI ps (nth path i) + 1), nth path i, left - 1, d, addF c (nth path i)⟩ := by
  rw [lst_get h hi]; unfold lstep incP; rw [if_neg hl]; dsimp only; rw [if_pos hx]
theorem lst_nn (h : lsteps S0 (path.take i) = ⟨ps, frm, left, d, c⟩) (hi : i < path.length) (hl : ¬ left = 0) (hx : ¬ 0 ≤ nth path i) :
    lsteps S0 (path.take (i + 1)) = ⟨ps, nth path i, left - 1, d, addF c (nth path i)⟩ := by
  rw [lst_get h hi]; unfold lstep incP; rw [if_neg hl]; dsimp only; rw [if_neg hx]
end
theorem lsteps_last {S0 : Lps} {path : List Int} {i : Nat} (hi : i < path.length) : (lsteps S0 (path.take (i + 1))).frm = nth path i := by
  rw [take_nth hi, lsteps_snoc]; unfold lstep; split <;> rfl
theorem mvT_last {r : Rul} {pl : Int} : ∀ (n : Nat) (frm : Int) (s : Sw) (path : List Int), 0 ≤ frm → 0 < getI s.pits frm → (∀ s', more r s' = true → 0 ≤ s'.last ∧ 1 < getI s'.pits s'.last) → (mvT r pl n frm s path).1 = true → ∃ q, q ≠ [] ∧ (mvT r pl n frm s path).2.2 = path ++ q ∧ ∀ d c, (lsteps ⟨s.pits, frm, 0, d, c⟩ q).frm = (mvT r pl n frm s path).2.1.last
  | 0, frm, s, path, _, _, _, h => by simp [mvT] at h
  | n + 1, frm, s, path, f0, h0, hm0, h => by
    obtain ⟨q1, h1, h2, h3⟩ := lap_steps r pl frm s path h0
    have hq1 : q1 ≠ [] := fun e => by rw [e] at h2; simp at h2; omega
    cases hm : more r (lap r pl frm s path).1 with
    | false =>
      rw [mvT_no hm]
      exact ⟨q1, hq1, h1, fun d c => by rw [h3 d c]⟩
    | true =>
      rw [mvT_yes hm] at h ⊢
      have hm2 := hm0 _ hm
      obtain ⟨q2, _, h4, h5⟩ := mvT_last n _ _ _ hm2.1 (by omega) hm0 h
      exact ⟨q1 ++ q2, by simp [hq1], by rw [h4, h1, List.append_assoc], fun d c => by rw [lsteps_app, h3 d c]; exact h5 _ _⟩
theorem path_bd {r : Rul} {p : Pos} {move : Int} (hs : (sowMove r p move).1 = 0) {i : Nat} (hi : i < (sowMove r p move).2.2.length) : -1 ≤ nth (sowMove r p move).2.2 i ∧ nth (sowMove r p move).2.2 i < 2 * r.pits := by
  by_cases h1 : i + 1 < (sowMove r p move).2.2.length
  · have := (move_pre hs (i + 1) h1).f
    rwa [lsteps_last hi] at this
  · obtain ⟨hok, m0, m1, hG, q0, q1, hsum⟩ := sowMove_ok hs
    have hc : sowCode r p move = 0 := by
      by_cases e : sowCode r p move = 0
      · exact e
      · rw [sowMove_code e] at hs; exact hs
    obtain ⟨_, _, _, hg⟩ := sowCode_ok hc
    obtain ⟨g1, g2, g3, g4, g5, g6, g7⟩ := okP_bd hok
    have hq := mul_bd g7 g1 g2
    have hT := mvT_true hs
    obtain ⟨q, _, h4, h5⟩ := mvT_last 100 (p.player * r.pits + move) ⟨p.pits, p.stores, 0, 0⟩ [] (by omega) hg (fun s' h => more_get h) hT
    have e := sowMove_yes hc hT
    have h6 := h5 [] []
    have h7 : (sowMove r p move).2.2 = q := by rw [e]; dsimp only; rw [h4, List.nil_append]
    have h8 : (sowMove r p move).2.1.last = nth (sowMove r p move).2.2 i := by
      have h9 := lsteps_last (S0 := lap0 p (p.player * r.pits + move)) hi
      rw [List.take_of_length_le (by omega), h7] at h9
      exact (congrArg (fun z : Int × Sw × List Int => z.2.1.last) e).trans (h6.symm.trans (h9.trans (by rw [h7])))
    rw [← h8]; exact ⟨q0, q1⟩
theorem lapsF_of {r : Rul} {p : Pos} {move : Int} {ps : List Int} {frm left : Int} {d c out : List Fct} {i : Nat} (h : lsteps (lap0 p (p.player * r.pits + move)) ((sowMove r p move).2.2.take i) = ⟨ps, frm, left, d, c⟩) (ho : out = d ++ c) (hi : (sowMove r p move).2.2.length ≤ i) : lapsF r p move = out := by
  rw [List.take_of_length_le hi] at h
  unfold lapsF; rw [h, ho]
theorem path_len {r : Rul} {p : Pos} {move : Int} (hs : (sowMove r p move).1 = 0) : (sowMove r p move).2.2.length ≤ 9600 := by
  have hc : sowCode r p move = 0 := by
    by_cases e : sowCode r p move = 0
    · exact e
    · rw [sowMove_code e] at hs; exact hs
  obtain ⟨hok, m0, m1, hg⟩ := sowCode_ok hc
  obtain ⟨g1, g2, g3, g4, g5, g6, g7⟩ := okP_bd hok
  have hq := mul_bd g7 g1 g2
  have hT := mvT_true hs
  have : ∀ (n : Nat) (frm : Int) (s : Sw) (path : List Int), 0 ≤ frm → frm < 2 * r.pits → Good r s.pits s.stores 0 → 0 < getI s.pits frm → (mvT r p.player n frm s path).2.2.length ≤ path.length + 96 * n := by
    intro n
    induction n with
    | zero => intro frm s path _ _ _ _; simp [mvT]
    | succ n ih =>
      intro frm s path f0 f1 hG h0
      obtain ⟨ha, hb1, hc1, hd, he, hf⟩ := lap_keeps r path g2 g1 g7 f0 f1 hG
      cases hm : more r (lap r p.player frm s path).1 with
      | false => rw [mvT_no hm]; dsimp only; omega
      | true =>
        rw [mvT_yes hm]
        have hm2 := more_get hm
        have := ih _ _ (lap r p.player frm s path).2 hm2.1 hc1 ha (by omega)
        omega
  have := this 100 (p.player * r.pits + move) ⟨p.pits, p.stores, 0, 0⟩ [] (by omega) (by omega) (Good.of_ok hok) hg
  rw [sowMove_yes hc hT]
  simpa using this
theorem make_sow0 {r : Rul} {p : Pos} {move : Int} (h : (make r p move).2 = 0) : (sowMove r p move).1 = 0 := by
  rw [make_code] at h; exact (done_ok h).1
theorem capF_all {r : Rul} {p : Pos} {sw : Sw} {base out : List Fct} {k : Nat} (h : out = base ++ ((captured r sw p.player).take k).map fun x => (⟨3, x, getI sw.pits x⟩ : Fct)) (hk : (captured r sw p.player).length ≤ k) : out = base ++ capF r p sw := by
  rw [h, List.take_of_length_le hk]; rfl
theorem spaF_y {r : Rul} {p : Pos} {s : Sw} (h1 : captured r s p.player = []) (h2 : taken r s p.player ≠ []) : spaF r p s = [⟨4, s.last, isum ((taken r s p.player).map (getI s.pits))⟩] := if_pos ⟨h1, h2⟩
theorem spaF_n {r : Rul} {p : Pos} {s : Sw} (h : ¬ (captured r s p.player = [] ∧ taken r s p.player ≠ [])) : spaF r p s = [] := if_neg h
theorem lapsF_len {r : Rul} {p : Pos} {move : Int} : (lapsF r p move).length ≤ 2 * (sowMove r p move).2.2.length := by
  have : ∀ (q : List Int) (S : Lps), ((lsteps S q).done ++ (lsteps S q).cur).length ≤ (S.done ++ S.cur).length + 2 * q.length := by
    intro q
    induction q with
    | nil => intro S; exact Nat.le_refl _
    | cons x q ih =>
      intro S
      have h1 := ih (lstep S x)
      have h2 : ((lstep S x).done ++ (lstep S x).cur).length ≤ (S.done ++ S.cur).length + 2 := by
        unfold lstep
        split
        · have := addF_len [] x
          simp only [List.length_append, List.length_cons, List.length_nil] at this ⊢; omega
        · have := addF_len S.cur x
          simp only [List.length_append] at this ⊢; omega
      show ((lsteps (lstep S x) q).done ++ (lsteps (lstep S x) q).cur).length ≤ _
      rw [List.length_cons]; omega
  have h := this (sowMove r p move).2.2 (lap0 p (p.player * r.pits + move))
  unfold lapsF
  simpa [lap0] using h
def canW (f : Fct) : Bool :=
  if f.kind = 5 ∨ f.kind = 6 then decide (f.place = 0) && decide (f.count = 0) else
  if 1 ≤ f.kind ∧ f.kind ≤ 4 then betw f.count 1 96 && (betw f.place 0 15 || (decide (f.place = -1) && decide (f.kind = 2))) else false
def placeT (k : Int) : List UInt8 := if k < 0 then [115, 116, 111, 114, 101] else dec k
def factT0 (f : Fct) : List UInt8 :=
  if f.kind = 1 then ([116, 97, 107, 101, 32] ++ dec f.count) ++ [32, 102, 114, 111, 109, 32] ++ placeT f.place else
  if f.kind = 2 then ([115, 111, 119, 32] ++ dec f.count) ++ [32, 105, 110, 116, 111, 32] ++ placeT f.place else
  if f.kind = 3 then ([99, 97, 112, 116, 117, 114, 101, 32] ++ dec f.count) ++ [32, 102, 114, 111, 109, 32] ++ placeT f.place else
  if f.kind = 4 then ([115, 112, 97, 114, 101, 32] ++ dec f.count) ++ [32, 102, 114, 111, 109, 32] ++ placeT f.place else
  if f.kind = 5 then [97, 103, 97, 105, 110] else [116, 117, 114, 110]
def factT (f : Fct) : List UInt8 := if canW f = true then factT0 f else []
theorem factT_y {f : Fct} (h : canW f = true) : factT f = factT0 f := if_pos h
theorem factT_n {f : Fct} (h : canW f = false) : factT f = [] := if_neg (by simp [h])
theorem placeT_len (k : Int) : (placeT k).length ≤ 21 := by
  unfold placeT; split
  · decide
  · exact dec_len k
theorem factT0_len (f : Fct) : (factT0 f).length ≤ 100 := by
  have a := dec_len f.count; have b := placeT_len f.place
  unfold factT0
  (repeat' split) <;> simp only [List.length_append, List.length_cons, List.length_nil] <;> omega
theorem canW_k {f : Fct} (h : canW f = true) : 1 ≤ f.kind ∧ f.kind ≤ 6 := by
  unfold canW at h
  split at h
  · omega
  · split at h
    · omega
    · cases h
def whyT (r : Rul) (p : Pos) (move code : Int) : List UInt8 :=
  if code = 2 then [110, 111, 32, 115, 117, 99, 104, 32, 109, 111, 118, 101] else
  if code = 6 then [116, 104, 101, 32, 112, 105, 116, 32, 105, 115, 32, 101, 109, 112, 116, 121] else
  if code = 10 then [116, 104, 101, 32, 109, 111, 118, 101, 32, 100, 111, 101, 115, 32, 110, 111, 116, 32, 101, 110, 100] else
  if r.slam = 1 ∧ slams r (sowMove r p move).2.1 p.player = true then [97, 108, 108, 32, 115, 101, 101, 100, 115, 32, 111, 102, 32, 116, 104, 101, 32, 111, 116, 104, 101, 114, 32, 112, 108, 97, 121, 101, 114, 32, 119, 111, 117, 108, 100, 32, 98, 101, 32, 99, 97, 112, 116, 117, 114, 101, 100] else
  [116, 104, 101, 32, 111, 116, 104, 101, 114, 32, 112, 108, 97, 121, 101, 114, 32, 119, 111, 117, 108, 100, 32, 104, 97, 118, 101, 32, 110, 111, 32, 115, 101, 101, 100, 115]
def explR (r : Rul) (p : Pos) (move : Int) : List (List UInt8) × Int :=
  if okP r p = false then ([], 1) else if (make r p move).2 = 0 then ((factsF r p move).map factT0, 0) else ([whyT r p move (make r p move).2], 0)
theorem make_1 {r : Rul} {p : Pos} {move : Int} : (make r p move).2 = 1 ↔ okP r p = false := by
  rw [make_code]
  constructor
  · intro h
    cases ho : okP r p with
    | false => rfl
    | true =>
      exfalso
      unfold done at h
      split at h
      · rename_i h1
        by_cases hc : sowCode r p move = 0
        · cases hm : (mvT r p.player 100 (p.player * r.pits + move) ⟨p.pits, p.stores, 0, 0⟩ []).1 with
          | true => rw [sowMove_yes hc hm] at h1; exact h1 rfl
          | false => rw [sowMove_end hc hm] at h; exact absurd h (by decide)
        · rw [sowMove_code hc] at h
          have h : sowCode r p move = 1 := h
          unfold sowCode at h
          rw [if_neg (by simp [ho])] at h
          split at h
          · exact absurd h (by decide)
          · split at h <;> exact absurd h (by decide)
      · split at h
        · exact absurd (show (9 : Int) = 1 from h) (by decide)
        · exact absurd (show (0 : Int) = 1 from h) (by decide)
  · intro h
    have hc : sowCode r p move = 1 := by unfold sowCode; rw [if_pos h]
    have hs := sowMove_code (r := r) (p := p) (move := move) (by rw [hc]; decide)
    unfold done; rw [if_pos (by rw [hs, hc]; decide), hs, hc]
theorem explR_1 {r : Rul} {p : Pos} {move : Int} (h : okP r p = false) : explR r p move = ([], 1) := if_pos h
theorem explR_f {r : Rul} {p : Pos} {move : Int} (h : (make r p move).2 = 0) : explR r p move = ((factsF r p move).map factT0, 0) := by
  have ho : ¬ okP r p = false := fun e => by rw [make_1.2 e] at h; exact absurd h (by decide)
  unfold explR; rw [if_neg ho, if_pos h]
theorem explR_w {r : Rul} {p : Pos} {move : Int} (ho : ¬ okP r p = false) (h : ¬ (make r p move).2 = 0) : explR r p move = ([whyT r p move (make r p move).2], 0) := by
  unfold explR; rw [if_neg ho, if_neg h]
def FW (f : Fct) : Prop := (f.kind = 1 ∨ f.kind = 2) ∧ -1 ≤ f.place ∧ f.place ≤ 15 ∧ (f.place = -1 → f.kind = 2) ∧ 1 ≤ f.count ∧ f.count ≤ 96
theorem FW.can {f : Fct} (h : FW f) : canW f = true := by
  obtain ⟨h1, h2, h3, h4, h5, h6⟩ := h
  unfold canW
  rw [if_neg (by omega), if_pos (by omega), betw_iff.2 ⟨h5, h6⟩]
  by_cases e : f.place = -1
  · simp [e, h4 e]
  · rw [betw_iff.2 ⟨by omega, h3⟩]; rfl
def csum : List Fct → Int
  | [] => 0
  | f :: l => f.count + csum l
theorem csum_add : ∀ (l : List Fct) (x : Int), csum (addF l x) = csum l + 1
  | [], x => rfl
  | f :: l, x => by
    rw [addF]; split
    · show f.count + 1 + csum l = f.count + csum l + 1; omega
    · show f.count + csum (addF l x) = f.count + csum l + 1; rw [csum_add l x]; omega
def SowOk (l : List Fct) : Prop := ∀ f ∈ l, f.kind = 2 ∧ -1 ≤ f.place ∧ f.place ≤ 15 ∧ 1 ≤ f.count
theorem SowOk.add {x : Int} (h0 : -1 ≤ x) (h1 : x ≤ 15) : ∀ {l : List Fct}, SowOk l → SowOk (addF l x)
  | [], _ => fun f hf => by rw [addF, List.mem_singleton] at hf; subst hf; exact ⟨rfl, h0, h1, by show (1 : Int) ≤ 1; decide⟩
  | g :: l, h => by
    have hl : SowOk l := fun f hf => h f (by simp [hf])
    have hg := h g (by simp)
    rw [addF]; split
    · intro f hf
      rcases List.mem_cons.1 hf with rfl | hf
      · exact ⟨hg.1, hg.2.1, hg.2.2.1, by show 1 ≤ g.count + 1; omega⟩
      · exact hl f hf
    · intro f hf
      rcases List.mem_cons.1 hf with rfl | hf
      · exact hg
      · exact SowOk.add h0 h1 hl f hf
theorem SowOk.sum : ∀ {l : List Fct}, SowOk l → 0 ≤ csum l ∧ ∀ f ∈ l, f.count ≤ csum l
  | [], _ => ⟨Int.le_refl _, fun f h => by simp at h⟩
  | g :: l, h => by
    have hl : SowOk l := fun f hf => h f (by simp [hf])
    have hg := h g (by simp)
    obtain ⟨h1, h2⟩ := SowOk.sum hl
    refine ⟨by show 0 ≤ g.count + csum l; omega, fun f hf => ?_⟩
    show f.count ≤ g.count + csum l
    rcases List.mem_cons.1 hf with rfl | hf
    · omega
    · have := h2 f hf; omega
theorem SowOk.fw {l : List Fct} (h : SowOk l) (hs : csum l ≤ 96) : ∀ f ∈ l, FW f := fun f hf => by
  have h1 := (SowOk.sum h).2 f hf
  obtain ⟨a, b, c, d⟩ := h f hf
  exact ⟨.inr a, b, c, fun _ => a, d, by omega⟩
structure LW (S : Lps) : Prop where
  d : ∀ f ∈ S.done, FW f
  c : SowOk S.cur
  s : csum S.cur + S.left ≤ 96
theorem LW.step {r : Rul} {S : Lps} (h : LW S) (hP : PI r S) (hr : r.pits ≤ 8) {x : Int} (h0 : -1 ≤ x) (h1 : x < 2 * r.pits) : LW (lstep S x) := by
  obtain ⟨ss, hG⟩ := hP.g
  have hn := hG.n0
  unfold lstep
  split
  · rename_i hz
    obtain ⟨z1, z2⟩ := hP.z hz
    have hp := hG.pit S.frm
    have hf := hP.f
    have hs := h.s
    have hfw : FW ⟨1, S.frm, getI S.pits S.frm⟩ := ⟨.inl rfl, by show -1 ≤ S.frm; omega, by show S.frm ≤ 15; omega, fun e => by have e : S.frm = -1 := e; omega, by show 1 ≤ getI S.pits S.frm; omega, hp.2⟩
    refine ⟨fun f hf => ?_, SowOk.add h0 (by omega) (fun f hf => by simp at hf), ?_⟩
    · dsimp only at hf
      rcases List.mem_append.1 hf with hf | hf
      · rcases List.mem_append.1 hf with hf | hf
        · exact h.d f hf
        · exact SowOk.fw h.c (by omega) f hf
      · rw [List.mem_singleton.1 hf]; exact hfw
    · show csum (addF [] x) + (getI S.pits S.frm - 1) ≤ 96
      rw [csum_add]; show (0 : Int) + 1 + (getI S.pits S.frm - 1) ≤ 96; omega
  · have hs := h.s
    refine ⟨h.d, SowOk.add h0 (by omega) h.c, ?_⟩
    show csum (addF S.cur x) + (S.left - 1) ≤ 96
    rw [csum_add]; omega
theorem laps_fw {r : Rul} {p : Pos} {move : Int} (hs : (sowMove r p move).1 = 0) : ∀ f ∈ lapsF r p move, FW f := by
  obtain ⟨hok, m0, m1, hG, q0, q1, hsum⟩ := sowMove_ok hs
  obtain ⟨g1, g2, g3, g4, g5, g6, g7⟩ := okP_bd hok
  have : ∀ i : Nat, i ≤ (sowMove r p move).2.2.length → LW (lsteps (lap0 p (p.player * r.pits + move)) ((sowMove r p move).2.2.take i)) ∧ 0 ≤ (lsteps (lap0 p (p.player * r.pits + move)) ((sowMove r p move).2.2.take i)).left := by
    intro i
    induction i with
    | zero => intro _; exact ⟨⟨fun f h => by simp [lsteps, lap0] at h, fun f h => by simp [lsteps, lap0] at h, by show (0 : Int) + 0 ≤ 96; decide⟩, by show (0 : Int) ≤ 0; decide⟩
    | succ i ih =>
      intro hi
      have hP := move_pre hs i (by omega)
      obtain ⟨b0, b1⟩ := path_bd hs (i := i) (by omega)
      obtain ⟨ih1, ih2⟩ := ih (by omega)
      rw [take_nth (by omega), lsteps_snoc]
      refine ⟨ih1.step hP g2 b0 b1, ?_⟩
      generalize lsteps (lap0 p (p.player * r.pits + move)) ((sowMove r p move).2.2.take i) = S at hP ih2 ⊢
      unfold lstep
      split
      · rename_i hz
        have := (hP.z hz).2
        show 0 ≤ getI S.pits S.frm - 1; omega
      · rename_i hz
        show 0 ≤ S.left - 1; omega
  obtain ⟨h1, h2⟩ := this _ (Nat.le_refl _)
  rw [List.take_length] at h1 h2
  intro f hf
  unfold lapsF at hf
  rcases List.mem_append.1 hf with hf | hf
  · exact h1.d f hf
  · exact SowOk.fw h1.c (by have := h1.s; omega) f hf
theorem sow_last (r : Rul) (pl frm : Int) (hb : r.pits ≤ 8) (hc : 2 ≤ r.pits) (hp : pl = 0 ∨ pl = 1) (f0 : 0 ≤ frm) : ∀ (n : Nat) (place : Int) (ps ss path : List Int), Good r ps ss ((n + 1 : Nat) : Int) → -1 ≤ place → place < 2 * r.pits →
    0 ≤ (sow r pl frm (n + 1) place ps ss path).1 → 1 ≤ getI (sow r pl frm (n + 1) place ps ss path).2.1 (sow r pl frm (n + 1) place ps ss path).1
  | 0, place, ps, ss, path, hG, p0, p1 => by
    have hbd := nxt_bd r (frm := frm) hb hc hp p0 f0
    have hpq := hG.pit (nxt r pl frm place)
    have hl := hG.lp
    rw [sow]
    split
    · rename_i hx; rw [sow]; intro h; have h : 0 ≤ nxt r pl frm place := h; omega
    · rename_i hx
      rw [sow]
      intro h
      show 1 ≤ getI (setI ps (nxt r pl frm place) (getI ps (nxt r pl frm place) + 1)) (nxt r pl frm place)
      rw [getI_setI_same (by omega) (by omega)]; omega
  | n + 1, place, ps, ss, path, hG, p0, p1 => by
    have hbd := nxt_bd r (frm := frm) hb hc hp p0 f0
    rw [sow]
    split
    · rename_i hx
      have hG2 := hG.putStore (k := pl) (by omega) (by omega) (by omega)
      rw [show ((n + 1 + 1 : Nat) : Int) - 1 = ((n + 1 : Nat) : Int) by omega] at hG2
      exact sow_last r pl frm hb hc hp f0 n _ _ _ _ hG2 hbd.1 hbd.2
    · rename_i hx
      have hG2 := hG.putPit (k := nxt r pl frm place) (by omega) (by omega) hbd.2
      rw [show ((n + 1 + 1 : Nat) : Int) - 1 = ((n + 1 : Nat) : Int) by omega] at hG2
      exact sow_last r pl frm hb hc hp f0 n _ _ _ _ hG2 hbd.1 hbd.2
theorem lap_last {r : Rul} {pl frm : Int} (hb : r.pits ≤ 8) (hc : 2 ≤ r.pits) (hp : pl = 0 ∨ pl = 1) (f0 : 0 ≤ frm) (f1 : frm < 2 * r.pits) {s : Sw} {path : List Int} (hG : Good r s.pits s.stores 0) (h0 : 0 < getI s.pits frm) (hl : 0 ≤ (lap r pl frm s path).1.last) :
    1 ≤ getI (lap r pl frm s path).1.pits (lap r pl frm s path).1.last := by
  have hn : (getI s.pits frm).toNat = ((getI s.pits frm).toNat - 1) + 1 := by omega
  have hG2 := hG.takeUp f0 f1
  unfold lap at hl ⊢
  dsimp only at hl ⊢
  rw [hn] at hl ⊢
  exact sow_last r pl frm hb hc hp f0 _ frm _ _ _ (by rw [show ((((getI s.pits frm).toNat - 1) + 1 : Nat) : Int) = getI s.pits frm by omega]; exact hG2) (by omega) f1 hl
theorem mvT_pit {r : Rul} {pl : Int} (hb : r.pits ≤ 8) (hc : 2 ≤ r.pits) (hp : pl = 0 ∨ pl = 1) : ∀ (n : Nat) (frm : Int) (s : Sw) (path : List Int), 0 ≤ frm → frm < 2 * r.pits → Good r s.pits s.stores 0 → 0 < getI s.pits frm → (mvT r pl n frm s path).1 = true →
    0 ≤ (mvT r pl n frm s path).2.1.last → 1 ≤ getI (mvT r pl n frm s path).2.1.pits (mvT r pl n frm s path).2.1.last
  | 0, frm, s, path, _, _, _, _, h => by simp [mvT] at h
  | n + 1, frm, s, path, f0, f1, hG, h0, h => by
    obtain ⟨ha, hb1, hc1, hd, he, hf⟩ := lap_keeps r path hb hc hp f0 f1 hG
    cases hm : more r (lap r pl frm s path).1 with
    | false => rw [mvT_no hm]; exact lap_last hb hc hp f0 f1 hG h0
    | true =>
      rw [mvT_yes hm] at h ⊢
      have hm2 := more_get hm
      exact mvT_pit hb hc hp n _ _ _ hm2.1 hc1 ha (by omega) h
theorem move_pit {r : Rul} {p : Pos} {move : Int} (hs : (sowMove r p move).1 = 0) (hl : 0 ≤ (sowMove r p move).2.1.last) : 1 ≤ getI (sowMove r p move).2.1.pits (sowMove r p move).2.1.last := by
  have hc : sowCode r p move = 0 := by
    by_cases e : sowCode r p move = 0
    · exact e
    · rw [sowMove_code e] at hs; exact hs
  obtain ⟨hok, m0, m1, hg⟩ := sowCode_ok hc
  obtain ⟨g1, g2, g3, g4, g5, g6, g7⟩ := okP_bd hok
  have hq := mul_bd g7 g1 g2
  have hT := mvT_true hs
  have := mvT_pit g2 g1 g7 100 (p.player * r.pits + move) ⟨p.pits, p.stores, 0, 0⟩ [] (by omega) (by omega) (Good.of_ok hok) hg hT
  rw [sowMove_yes hc hT] at hl ⊢
  exact this hl
theorem tt_pos {r : Rul} {pl : Int} {ps : List Int} : ∀ (n : Nat) (x : Int), x ∈ tt r pl ps n → 1 ≤ getI ps x
  | 0, x, h => by
    unfold tt at h
    split at h
    · rename_i hc
      simp at h; subst h
      simp only [ttOk, Bool.and_eq_true, betw_iff] at hc
      have h2 := hc.2; have h3 : getI ps ((0 : Nat) : Int) = getI ps 0 := rfl; omega
    · simp at h
  | n + 1, x, h => by
    unfold tt at h
    split at h
    · rename_i hc
      rcases List.mem_cons.1 h with rfl | h
      · simp only [ttOk, Bool.and_eq_true, betw_iff] at hc
        have := hc.2; omega
      · exact tt_pos n x h
    · simp at h
theorem taken_pos {r : Rul} {s : Sw} {pl : Int} (hl : 0 ≤ s.last → 1 ≤ getI s.pits s.last) {x : Int} (hx : x ∈ taken r s pl) : 1 ≤ getI s.pits x ∧ 0 ≤ s.last := by
  unfold taken at hx
  split at hx
  · simp at hx
  · rename_i h0
    have h0 : 0 ≤ s.last := by omega
    refine ⟨?_, h0⟩
    split at hx
    · exact tt_pos _ x hx
    · split at hx
      · split at hx
        · rename_i hc
          simp only [List.mem_cons, List.not_mem_nil, or_false] at hx
          rcases hx with rfl | rfl
          · omega
          · omega
        · simp at hx
      · split at hx
        · split at hx
          · simp only [List.mem_singleton] at hx
            subst hx; exact hl h0
          · simp at hx
        · simp at hx
theorem getI_other {l : List Int} {k x : Int} {v : Int} (hk : 0 ≤ k) (hx : 0 ≤ x) (hne : x ≠ k) : getI (setI l k v) x = getI l x := by
  unfold getI; exact nth_setI (by omega) hk
theorem sum_zeros : ∀ (l ps : List Int), l.Nodup → (∀ x ∈ l, 0 ≤ x ∧ x < (ps.length : Int)) → isum (l.map (getI ps)) + isum (zeros l ps) = isum ps
  | [], ps, _, _ => by simp [zeros]
  | k :: l, ps, hn, h => by
    obtain ⟨hk, hn2⟩ := List.nodup_cons.1 hn
    have hkb := h k (by simp)
    have ih := sum_zeros l (setI ps k 0) hn2 (fun x hx => by rw [setI_length]; exact h x (by simp [hx]))
    have e : l.map (getI (setI ps k 0)) = l.map (getI ps) := List.map_congr_left (fun x hx => getI_other hkb.1 (h x (by simp [hx])).1 (fun e => hk (e ▸ hx)))
    rw [e, isum_setI hkb.1 hkb.2] at ih
    rw [List.map_cons, isum_cons]
    have : zeros (k :: l) ps = zeros l (setI ps k 0) := rfl
    rw [this]; omega
theorem nn_zeros : ∀ (l ps : List Int), nn ps → nn (zeros l ps)
  | [], _, h => h
  | k :: l, ps, h => nn_zeros l (setI ps k 0) (nn_setI h k (by omega))
theorem sum_taken {r : Rul} {s : Sw} {pl : Int} (hG : Good r s.pits s.stores 0) (h1 : s.last < 2 * r.pits) : isum ((taken r s pl).map (getI s.pits)) ≤ 96 := by
  have hl := hG.lp
  have := sum_zeros (taken r s pl) s.pits (taken_nodup r s pl) (fun x hx => by have := taken_mem h1 hx; omega)
  have h2 := nn_isum (nn_zeros (taken r s pl) s.pits hG.np)
  have h3 := nn_isum hG.ns
  have h4 := hG.all
  omega
theorem isum_pos : ∀ {l : List Int}, l ≠ [] → (∀ x ∈ l, 1 ≤ x) → 1 ≤ isum l
  | [], h, _ => absurd rfl h
  | [x], _, h => by rw [isum_cons]; have := h x (by simp); show 1 ≤ x + 0; omega
  | x :: y :: l, _, h => by
    have h1 := isum_pos (l := y :: l) (by simp) (fun z hz => h z (by simp [hz]))
    have h2 := h x (by simp)
    rw [isum_cons]; omega
theorem facts_can {r : Rul} {p : Pos} {move : Int} (hm : (make r p move).2 = 0) : ∀ f ∈ factsF r p move, canW f = true := by
  have hs := make_sow0 hm
  obtain ⟨hok, m0, m1, hG, q0, q1, hsum⟩ := sowMove_ok hs
  obtain ⟨g1, g2, g3, g4, g5, g6, g7⟩ := okP_bd hok
  have hl := fun h => move_pit (r := r) (p := p) (move := move) hs h
  have htk : ∀ x ∈ taken r (sowMove r p move).2.1 p.player, 1 ≤ getI (sowMove r p move).2.1.pits x ∧ getI (sowMove r p move).2.1.pits x ≤ 96 ∧ 0 ≤ x ∧ x ≤ 15 ∧ 0 ≤ (sowMove r p move).2.1.last := fun x hx => by
    have a := taken_pos hl hx; have b := hG.pit x; have c := taken_mem q1 hx
    omega
  intro f hf
  unfold factsF at hf
  rcases List.mem_append.1 hf with hf | hf
  · rcases List.mem_append.1 hf with hf | hf
    · rcases List.mem_append.1 hf with hf | hf
      · exact (laps_fw hs f hf).can
      · unfold capF at hf
        obtain ⟨k, hk, rfl⟩ := List.mem_map.1 hf
        have hk' : k ∈ taken r (sowMove r p move).2.1 p.player := by
          unfold captured at hk; split at hk
          · simp at hk
          · exact hk
        obtain ⟨t1, t2, t3, t4, _⟩ := htk k hk'
        unfold canW
        dsimp only
        rw [if_neg (by decide), if_pos (by decide), betw_iff.2 ⟨t1, t2⟩, betw_iff.2 ⟨t3, t4⟩]; rfl
    · unfold spaF at hf
      split at hf
      · rename_i hc
        rw [List.mem_singleton.1 hf]
        have h1 := sum_taken (pl := p.player) hG q1
        have h2 : 1 ≤ isum ((taken r (sowMove r p move).2.1 p.player).map (getI (sowMove r p move).2.1.pits)) := isum_pos (by simpa using hc.2) (fun y hy => by
          obtain ⟨x, hx, rfl⟩ := List.mem_map.1 hy
          exact (htk x hx).1)
        obtain ⟨x, hx⟩ := List.exists_mem_of_ne_nil _ hc.2
        have h3 := (htk x hx).2.2.2.2
        unfold canW
        dsimp only
        rw [if_neg (by decide), if_pos (by decide), betw_iff.2 ⟨h2, h1⟩, betw_iff.2 ⟨h3, by omega⟩]; rfl
      · simp at hf
  · rw [List.mem_singleton.1 hf]
    unfold canW endF
    dsimp only
    rw [if_pos (by split <;> simp)]; rfl
theorem facts_len {r : Rul} {p : Pos} {move : Int} (hm : (make r p move).2 = 0) : (factsF r p move).length ≤ 20000 := by
  have hs := make_sow0 hm
  obtain ⟨hok, m0, m1, hG, q0, q1, hsum⟩ := sowMove_ok hs
  obtain ⟨g1, g2, g3, g4, g5, g6, g7⟩ := okP_bd hok
  have h1 := lapsF_len (r := r) (p := p) (move := move)
  have h2 := path_len hs
  have h3 := captured_len (s := (sowMove r p move).2.1) (player := p.player) q1 g2
  have h4 : (spaF r p (sowMove r p move).2.1).length ≤ 1 := by unfold spaF; split <;> simp
  unfold factsF capF
  simp only [List.length_append, List.length_map, List.length_cons, List.length_nil]; omega
section
variable {out d c : List Fct} {t : Fct} {x n : Int} {b i : Nat}
theorem sowL_new (h : out = d ++ c) : sowL (out ++ [t]) (((out ++ [t]).length : Int)).toNat x = ((d ++ c) ++ [t]) ++ addF [] x := by
  subst h
  have := sowL_at ((d ++ c) ++ [t]) [] x
  rw [List.append_nil] at this
  rw [Int.toNat_natCast]; exact this
theorem sowL_old (h : out = d ++ c) (hb : b = d.length) : sowL out ((b : Int)).toNat x = d ++ addF c x := by
  subst h; subst hb; rw [Int.toNat_natCast]; exact sowL_at d c x
theorem sowL_ge {l : List Fct} (h : b ≤ l.length) : b ≤ (sowL l ((b : Int)).toNat x).length := by
  unfold sowL; rw [Int.toNat_natCast, List.length_append, List.length_take]; omega
theorem newLen (h : out = d ++ c) : (out ++ [t]).length = ((d ++ c) ++ [t]).length := by rw [h]
end
theorem tel_miss2 {base cur F : List Fct} {g : List (Int × Int)} {x : Int} {n : Nat} (hn : F.length = n) (hF : F = base ++ cur) (h : MapF_ g (base.length : Int) cur) (hx : mhas g x = false) :
    fct (F ++ [(⟨2, x, 0⟩ : Fct)]) n = ⟨2, x, 0⟩ ∧ (F ++ [(⟨2, x, 0⟩ : Fct)]).set n ⟨2, x, 0 + 1⟩ = base ++ addF cur x ∧ MapF_ (mput g x (n : Int)) (base.length : Int) (addF cur x) := by
  subst hn; exact tel_miss hF h hx
theorem facts_end {r : Rul} {p : Pos} {move : Int} {sw : Sw} {o : List Fct} {b : Bool} (h : (make r p move).2 = 0) (hs : (sowMove r p move).2.1 = sw) (ho : o = (lapsF r p move ++ capF r p sw) ++ spaF r p sw) (hb : (make r p move).1.again = b) : factsF r p move = o ++ [endF b] := by
  subst hs; subst hb; rw [ho]; rfl
theorem FacI.len {r : Rul} {p : Pos} {frm0 frm : Int} {sw : Sw} {path : List Int} {out : List Fct} (h : FacI r p frm0 frm sw path out) : out.length ≤ 2 * path.length := by
  have : ∀ (q : List Int) (S : Lps), ((lsteps S q).done ++ (lsteps S q).cur).length ≤ (S.done ++ S.cur).length + 2 * q.length := by
    intro q
    induction q with
    | nil => intro S; exact Nat.le_refl _
    | cons x q ih =>
      intro S
      have h1 := ih (lstep S x)
      have h2 : ((lstep S x).done ++ (lstep S x).cur).length ≤ (S.done ++ S.cur).length + 2 := by
        unfold lstep
        split
        · have := addF_len [] x
          simp only [List.length_append, List.length_cons, List.length_nil] at this ⊢; omega
        · have := addF_len S.cur x
          simp only [List.length_append] at this ⊢; omega
      show ((lsteps (lstep S x) q).done ++ (lsteps (lstep S x) q).cur).length ≤ _
      rw [List.length_cons]; omega
  obtain ⟨d, c, h1, h2⟩ := h.st
  have h3 := this path (lap0 p frm0)
  rw [h1] at h3
  rw [h2]
  simpa [lap0] using h3
theorem FacI.lap' {r : Rul} {p : Pos} {frm0 frm : Int} {sw : Sw} {path : List Int} {out : List Fct} (h : FacI r p frm0 frm sw path out) (hp : 0 < getI sw.pits frm) :
    FacI r p frm0 (M.lap r p.player frm sw path).1.last (M.lap r p.player frm sw path).1 (M.lap r p.player frm sw path).2 ((out ++ [⟨1, frm, getI sw.pits frm⟩]) ++ addFs [] (((M.lap r p.player frm sw path).2.drop path.length).take ((M.lap r p.player frm sw path).2.length - path.length))) := by
  have e : ((M.lap r p.player frm sw path).2.drop path.length).take ((M.lap r p.player frm sw path).2.length - path.length) = (M.lap r p.player frm sw path).2.drop path.length := List.take_of_length_le (by rw [List.length_drop]; exact Nat.le_refl _)
  rw [e]; exact h.lap hp
theorem cap_nil {r : Rul} {p : Pos} {sw : Sw} {out : List Fct} (h : captured r sw p.player = [] ∧ taken r sw p.player ≠ []) {l : List Fct} {v : Int} (hv : v = isum ((taken r sw p.player).map (getI sw.pits))) (ho : out = l) : out ++ [⟨4, sw.last, v⟩] = l ++ spaF r p sw := by
  rw [spaF_y h.1 h.2, hv, ho]
theorem cap_non {r : Rul} {p : Pos} {sw : Sw} {out : List Fct} (h : ¬ (captured r sw p.player = [] ∧ taken r sw p.player ≠ [])) {l : List Fct} (ho : out = l) : out = l ++ spaF r p sw := by
  rw [spaF_n h, List.append_nil, ho]
theorem lap_ge (r : Rul) (pl frm : Int) (s : Sw) (path : List Int) (hp : 0 < getI s.pits frm) : path.length ≤ (M.lap r pl frm s path).2.length := by
  obtain ⟨q, h1, _⟩ := lap_steps r pl frm s path hp
  rw [h1, List.length_append]; omega
theorem nth_sm {l : List Int} {k : Nat} (h : k < l.length) : l[k]? = some (nth l k) := by simp [nth, List.getD, h]
end Go.Proofs.YtjgohnaobbphpaaGreatDoor.M
namespace Go.Proofs.YtjgohnaobbphpaaGreatDoor
open Go.RowKit
def RX (w : World) (R : Value → Prop) (e : Ending) (w' : World) : Prop := ∃ v, e = .returned v ∧ R v ∧ Ext w w'
section
variable {P : Program} {n lo : Nat} {B : List Nat} {Q : Exit → Act → World → Prop} {cs : List Code} {K : Act → World → Prop} {ops : Array Oper} {rest : List Oper} {l : Fr} {os os' os1 : List Own} {u : World} {ty : TypeId} {pos : String} {af : Array Edge} {gd : Option (Nat × Bool)} {dst : Option Tmp} {v : Value} {d : Nat}
end
theorem txs_get' {xs : List (List UInt8)} {k : Nat} {y : List UInt8} (h : xs[k]? = some y) : (txs_ xs)[0 + k * 1]? = some (.string (sB y)) := by rw [Nat.zero_add, Nat.mul_one]; simp [txs_, h]
end Go.Proofs.YtjgohnaobbphpaaGreatDoor
namespace Go.Proofs.YtjgohnaobbphpaaGreatDoor.M
def fkNames : List (List UInt8) := [[116, 97, 107, 101], [115, 111, 119], [99, 97, 112, 116, 117, 114, 101], [115, 112, 97, 114, 101], [97, 103, 97, 105, 110], [116, 117, 114, 110]]
theorem fkName_len {y : List UInt8} {k : Nat} (h : fkNames[k]? = some y) : y.length ≤ 7 := by
  have := List.mem_of_getElem? h
  simp only [fkNames, List.mem_cons, List.not_mem_nil, or_false] at this
  rcases this with rfl | rfl | rfl | rfl | rfl | rfl <;> decide
theorem factT_word {f : Fct} {y : List UInt8} (h : canW f = true) (hy : fkNames[(f.kind - 1).toNat]? = some y) (hk : f.kind = 5 ∨ f.kind = 6) : factT f = y := by
  rw [factT_y h]; unfold factT0
  rcases hk with e | e
  · rw [if_neg (by omega), if_neg (by omega), if_neg (by omega), if_neg (by omega), if_pos e]
    rw [e] at hy; exact Option.some.inj hy
  · rw [if_neg (by omega), if_neg (by omega), if_neg (by omega), if_neg (by omega), if_neg (by omega)]
    rw [e] at hy; exact Option.some.inj hy
theorem factT_long {f : Fct} {y : List UInt8} (h : canW f = true) (hy : fkNames[(f.kind - 1).toNat]? = some y) (hk : ¬ (f.kind = 5 ∨ f.kind = 6)) {wy pl : List UInt8} (hw : wy = if f.kind = 2 then [105, 110, 116, 111] else [102, 114, 111, 109]) (hp : pl = placeT f.place) :
    factT f = ((((y ++ [32]) ++ dec f.count) ++ [32]) ++ wy ++ [32]) ++ pl := by
  have hb := canW_k h
  rw [factT_y h, hp]; unfold factT0
  have : f.kind = 1 ∨ f.kind = 2 ∨ f.kind = 3 ∨ f.kind = 4 := by omega
  rcases this with e | e | e | e
  · rw [if_pos e]; rw [if_neg (by omega)] at hw; rw [e] at hy; have := Option.some.inj hy; subst this; subst hw; simp
  · rw [if_neg (by omega), if_pos e]; rw [if_pos e] at hw; rw [e] at hy; have := Option.some.inj hy; subst this; subst hw; simp
  · rw [if_neg (by omega), if_neg (by omega), if_pos e]; rw [if_neg (by omega)] at hw; rw [e] at hy; have := Option.some.inj hy; subst this; subst hw; simp
  · rw [if_neg (by omega), if_neg (by omega), if_neg (by omega), if_pos e]; rw [if_neg (by omega)] at hw; rw [e] at hy; have := Option.some.inj hy; subst this; subst hw; simp
def whyR (r : Rul) (p : Pos) (move : Int) : List UInt8 × Int :=
  if (make r p move).2 = 0 then ([], 3) else if (make r p move).2 = 1 then ([], 1) else (whyT r p move (make r p move).2, 0)
theorem whyR_0 {r : Rul} {p : Pos} {move : Int} (h : (make r p move).2 = 0) : whyR r p move = ([], 3) := if_pos h
theorem whyR_1 {r : Rul} {p : Pos} {move : Int} (h : (make r p move).2 = 1) : whyR r p move = ([], 1) := by unfold whyR; rw [if_neg (by omega), if_pos h]
theorem whyR_w {r : Rul} {p : Pos} {move : Int} (h : ¬ (make r p move).2 = 0) (h1 : ¬ (make r p move).2 = 1) {t : List UInt8} (ht : whyT r p move (make r p move).2 = t) : whyR r p move = (t, 0) := by unfold whyR; rw [if_neg h, if_neg h1, ht]
section
variable {r : Rul} {p : Pos} {move code : Int}
theorem whyT_2 (h : code = 2) : whyT r p move code = [110, 111, 32, 115, 117, 99, 104, 32, 109, 111, 118, 101] := if_pos h
theorem whyT_6 (h2 : ¬ code = 2) (h : code = 6) : whyT r p move code = [116, 104, 101, 32, 112, 105, 116, 32, 105, 115, 32, 101, 109, 112, 116, 121] := by unfold whyT; rw [if_neg h2, if_pos h]
theorem whyT_10 (h2 : ¬ code = 2) (h6 : ¬ code = 6) (h : code = 10) : whyT r p move code = [116, 104, 101, 32, 109, 111, 118, 101, 32, 100, 111, 101, 115, 32, 110, 111, 116, 32, 101, 110, 100] := by unfold whyT; rw [if_neg h2, if_neg h6, if_pos h]
theorem whyT_s (h2 : ¬ code = 2) (h6 : ¬ code = 6) (h10 : ¬ code = 10) (h : r.slam = 1 ∧ slams r (sowMove r p move).2.1 p.player = true) : whyT r p move code = [97, 108, 108, 32, 115, 101, 101, 100, 115, 32, 111, 102, 32, 116, 104, 101, 32, 111, 116, 104, 101, 114, 32, 112, 108, 97, 121, 101, 114, 32, 119, 111, 117, 108, 100, 32, 98, 101, 32, 99, 97, 112, 116, 117, 114, 101, 100] := by
  unfold whyT; rw [if_neg h2, if_neg h6, if_neg h10, if_pos h]
theorem whyT_n (h2 : ¬ code = 2) (h6 : ¬ code = 6) (h10 : ¬ code = 10) (h : ¬ (r.slam = 1 ∧ slams r (sowMove r p move).2.1 p.player = true)) : whyT r p move code = [116, 104, 101, 32, 111, 116, 104, 101, 114, 32, 112, 108, 97, 121, 101, 114, 32, 119, 111, 117, 108, 100, 32, 104, 97, 118, 101, 32, 110, 111, 32, 115, 101, 101, 100, 115] := by
  unfold whyT; rw [if_neg h2, if_neg h6, if_neg h10, if_neg h]
theorem make_9 (h0 : ¬ (make r p move).2 = 0) (h1 : ¬ (make r p move).2 = 1) (h2 : ¬ (make r p move).2 = 2) (h6 : ¬ (make r p move).2 = 6) (h10 : ¬ (make r p move).2 = 10) : (sowMove r p move).1 = 0 := by
  rw [make_code] at h0 h1 h2 h6 h10
  by_cases hs : (sowMove r p move).1 = 0
  · exact hs
  · exfalso
    have hd : (done r p move).2 = (sowMove r p move).1 := by unfold done; rw [if_pos hs]
    rw [hd] at h0 h1 h2 h6 h10
    by_cases hc : sowCode r p move = 0
    · cases hm : (mvT r p.player 100 (p.player * r.pits + move) ⟨p.pits, p.stores, 0, 0⟩ []).1 with
      | true => exact hs (by rw [sowMove_yes hc hm])
      | false => exact h10 (by rw [sowMove_end hc hm])
    · rw [sowMove_code hc] at h0 h1 h2 h6 h10
      have : sowCode r p move = 1 ∨ sowCode r p move = 2 ∨ sowCode r p move = 6 ∨ sowCode r p move = 0 := by
        unfold sowCode; split
        · exact .inl rfl
        · split
          · exact .inr (.inl rfl)
          · split
            · exact .inr (.inr (.inl rfl))
            · exact .inr (.inr (.inr rfl))
      rcases this with h | h | h | h
      · exact h1 h
      · exact h2 h
      · exact h6 h
      · exact h0 h
end
theorem texts_step {l : List Fct} {k : Nat} {y : Fct} {out : List (List UInt8)} (h : out = (l.take k).map factT0) (hy : l[k]? = some y) : out ++ [factT0 y] = (l.take (k + 1)).map factT0 := by
  rw [List.take_add_one, hy, h, List.map_append]; rfl
theorem texts_all {l : List Fct} {k : Nat} {out : List (List UInt8)} (h : out = (l.take k).map factT0) (hk : l.length ≤ k) : l.map factT0 = out := by
  rw [h, List.take_of_length_le hk]
theorem canW_b {f : Fct} (h : canW f = true) : 0 ≤ f.count ∧ f.count ≤ 96 ∧ -1 ≤ f.place ∧ f.place ≤ 15 := by
  unfold canW at h
  split at h
  · simp only [Bool.and_eq_true, decide_eq_true_eq] at h; omega
  · split at h
    · simp only [Bool.and_eq_true, Bool.or_eq_true, decide_eq_true_eq, betw_iff] at h; omega
    · cases h
theorem whyT_len (r : Rul) (p : Pos) (move code : Int) : (whyT r p move code).length ≤ 100 := by
  unfold whyT; repeat' split
  all_goals decide
theorem explR_len (r : Rul) (p : Pos) (move : Int) : (explR r p move).1.length ≤ 20000 := by
  by_cases ho : okP r p = false
  · rw [explR_1 ho]; simp
  · by_cases h : (make r p move).2 = 0
    · rw [explR_f h]; have := facts_len h; simpa using this
    · rw [explR_w ho h]; simp
def wn (s : List UInt8) (k : Nat) : List UInt8 := (split 32 s).getD k []
def kindOf (w : List UInt8) : Int := idx fkNames w + 1
def facI (s : List UInt8) : Fct :=
  if (split 32 s).length = 4 then ⟨kindOf (wn s 0), if wn s 3 = [115, 116, 111, 114, 101] then -1 else (num (wn s 3)).1, (num (wn s 1)).1⟩ else ⟨kindOf (wn s 0), 0, 0⟩
def facS (s : List UInt8) : Fct :=
  if (split 32 s).length = 4 then ⟨kindOf (wn s 0), if (num (wn s 3)).2 = true then (num (wn s 3)).1 else -1, (num (wn s 1)).1⟩ else ⟨kindOf (wn s 0), 0, 0⟩
def readF (s : List UInt8) : Fct × Bool := if canW (facS s) = true ∧ factT0 (facS s) = s then (facS s, true) else (Fct.zero, false)
theorem store_num : num [115, 116, 111, 114, 101] = (0, false) := by decide +kernel
theorem place_num {k : Int} (h0 : 0 ≤ k) (h1 : k ≤ 15) : num (placeT k) = (k, true) := by
  unfold placeT; rw [if_neg (by omega)]; exact num_dec_small h0 (by omega)
theorem d2_ne : ∀ n : Fin 16, d2 n ≠ [115, 116, 111, 114, 101] := by decide
theorem place_ne {k : Int} (h0 : 0 ≤ k) (h1 : k ≤ 15) : placeT k ≠ [115, 116, 111, 114, 101] := by
  obtain ⟨m, rfl⟩ := Int.eq_ofNat_of_zero_le h0
  unfold placeT; rw [if_neg (by omega), dec_d2 (by omega)]; exact d2_ne ⟨m, by omega⟩
theorem place_no {k : Int} : (32 : UInt8) ∉ placeT k := by
  unfold placeT; split
  · decide
  · exact dec_no (.inl rfl)
theorem canW_cases {f : Fct} (h : canW f = true) : (f.kind = 5 ∨ f.kind = 6) ∧ f.place = 0 ∧ f.count = 0 ∨ (f.kind = 1 ∨ f.kind = 2 ∨ f.kind = 3 ∨ f.kind = 4) ∧ 1 ≤ f.count ∧ f.count ≤ 96 ∧ (0 ≤ f.place ∧ f.place ≤ 15 ∨ f.place = -1) := by
  unfold canW at h
  split at h
  · rename_i hk
    simp only [Bool.and_eq_true, decide_eq_true_eq] at h
    exact .inl ⟨hk, h.1, h.2⟩
  · split at h
    · rename_i hk
      simp only [Bool.and_eq_true, Bool.or_eq_true, decide_eq_true_eq, betw_iff] at h
      refine .inr ⟨by omega, h.1.1, h.1.2, ?_⟩
      rcases h.2 with h | h
      · exact .inl h
      · exact .inr h.1
    · cases h
theorem split_4 {a b c d : List UInt8} (ha : (32 : UInt8) ∉ a) (hb : (32 : UInt8) ∉ b) (hc : (32 : UInt8) ∉ c) (hd : (32 : UInt8) ∉ d) : split 32 (a ++ 32 :: (b ++ 32 :: (c ++ 32 :: d))) = [a, b, c, d] := by
  rw [split_app 32 _ _ ha, split_app 32 _ _ hb, split_app 32 _ _ hc, split_last 32 _ hd]
theorem back {f : Fct} (h : canW f = true) : facI (factT0 f) = f ∧ facS (factT0 f) = f := by
  rcases canW_cases h with ⟨hk, hp, hc⟩ | ⟨hk, c0, c1, hp⟩
  · obtain ⟨k, p, c⟩ := f
    dsimp only at hk hp hc
    subst hp; subst hc
    rcases hk with rfl | rfl
    · exact ⟨by decide +kernel, by decide +kernel⟩
    · exact ⟨by decide +kernel, by decide +kernel⟩
  · have hn : num (dec f.count) = (f.count, true) := num_dec_small (by omega) c1
    have hdn : (32 : UInt8) ∉ dec f.count := dec_no (.inl rfl)
    have key : ∀ (w y : List UInt8), (32 : UInt8) ∉ w → (32 : UInt8) ∉ y → kindOf w = f.kind → factT0 f = w ++ 32 :: (dec f.count ++ 32 :: (y ++ 32 :: placeT f.place)) → facI (factT0 f) = f ∧ facS (factT0 f) = f := by
      intro w y hw hy hkk he
      have hs := split_4 hw hdn hy (place_no (k := f.place))
      rw [← he] at hs
      have e0 : wn (factT0 f) 0 = w := by unfold wn; rw [hs]; rfl
      have e1 : wn (factT0 f) 1 = dec f.count := by unfold wn; rw [hs]; rfl
      have e3 : wn (factT0 f) 3 = placeT f.place := by unfold wn; rw [hs]; rfl
      have hl : (split 32 (factT0 f)).length = 4 := by rw [hs]; rfl
      unfold facI facS
      rw [if_pos hl, if_pos hl, e0, e1, e3, hn, hkk]
      rcases hp with ⟨p0, p1⟩ | p0
      · rw [if_neg (place_ne p0 p1), place_num p0 p1, if_pos rfl]
        exact ⟨rfl, rfl⟩
      · have e : placeT f.place = [115, 116, 111, 114, 101] := by unfold placeT; rw [if_pos (by omega)]
        rw [e, if_pos rfl, store_num, if_neg (by decide)]
        have : f = ⟨f.kind, -1, f.count⟩ := by rw [← p0]
        exact ⟨this.symm, this.symm⟩
    rcases hk with e | e | e | e
    · exact key [116, 97, 107, 101] [102, 114, 111, 109] (by decide) (by decide) (by rw [e]; decide) (by unfold factT0; rw [if_pos e]; simp)
    · exact key [115, 111, 119] [105, 110, 116, 111] (by decide) (by decide) (by rw [e]; decide) (by unfold factT0; rw [if_neg (by omega), if_pos e]; simp)
    · exact key [99, 97, 112, 116, 117, 114, 101] [102, 114, 111, 109] (by decide) (by decide) (by rw [e]; decide) (by unfold factT0; rw [if_neg (by omega), if_neg (by omega), if_pos e]; simp)
    · exact key [115, 112, 97, 114, 101] [102, 114, 111, 109] (by decide) (by decide) (by rw [e]; decide) (by unfold factT0; rw [if_neg (by omega), if_neg (by omega), if_neg (by omega), if_pos e]; simp)
theorem factT0_ne {f : Fct} : factT0 f ≠ [] := by
  unfold factT0
  (repeat' split) <;> simp
theorem readF_y {s : List UInt8} (h : canW (facS s) = true) (h2 : factT0 (facS s) = s) : readF s = (facS s, true) := if_pos ⟨h, h2⟩
theorem readF_n {s : List UInt8} (h : ¬ (canW (facS s) = true ∧ factT0 (facS s) = s)) : readF s = (Fct.zero, false) := if_neg h
theorem readF_I {s : List UInt8} (h : factT (facI s) = s) (hne : ¬ s = []) : readF s = (facI s, true) := by
  have hc : canW (facI s) = true := by
    cases e : canW (facI s) with
    | true => rfl
    | false => rw [factT_n e] at h; exact absurd h.symm hne
  rw [factT_y hc] at h
  have hb := (back hc).2
  rw [h] at hb
  rw [← hb] at hc h
  rw [← hb]
  have e2 : facS s = facI s := hb
  exact (readF_y hc h).trans (by rw [e2])
theorem readF_J {s : List UInt8} (h : ¬ (factT (facI s) = s ∧ ¬ s = [])) : readF s = (Fct.zero, false) := by
  refine readF_n fun ⟨hc, ht⟩ => h ?_
  have hb := (back hc).1
  rw [ht] at hb
  rw [← hb] at hc ht
  exact ⟨by rw [factT_y hc]; exact ht, fun e => by rw [e] at ht; exact factT0_ne ht⟩
theorem readF_back {f : Fct} (h : canW f = true) : readF (factT0 f) = (f, true) := by
  have hb := (back h).2
  have := readF_y (s := factT0 f) (by rw [hb]; exact h) (by rw [hb])
  rw [this, hb]
theorem readF_law (f : Fct) : (readF (factT f)).2 = !decide (factT f = []) ∧ ((readF (factT f)).2 = true → (readF (factT f)).1 = f) := by
  cases h : canW f with
  | true => rw [factT_y h, readF_back h]; exact ⟨by simp [factT0_ne], fun _ => rfl⟩
  | false =>
    rw [factT_n h]
    have : readF [] = (Fct.zero, false) := readF_n (by rintro ⟨_, h2⟩; exact factT0_ne h2)
    rw [this]; exact ⟨rfl, fun h => absurd h (by decide)⟩
theorem kindOf_bd (w : List UInt8) : 0 ≤ kindOf w ∧ kindOf w ≤ 6 := by
  have := idx_bd fkNames w
  rw [show (fkNames.length : Int) = 6 from rfl] at this
  unfold kindOf; omega
theorem facI_bd (s : List UInt8) : -999999999999999999 ≤ (facI s).count ∧ (facI s).count ≤ 999999999999999999 ∧ -999999999999999999 ≤ (facI s).place ∧ (facI s).place ≤ 999999999999999999 := by
  have a := num_bd (wn s 1); have b := num_bd (wn s 3)
  unfold facI
  split
  · dsimp only; split <;> omega
  · dsimp only; omega
theorem wn_get {s y : List UInt8} {k : Nat} (h : (split 32 s)[k]? = some y) : wn s k = y := by unfold wn; rw [List.getD_eq_getElem?_getD, h]; rfl
def kindN (w : List UInt8) : Nat → Int
  | 0 => 0
  | k + 1 => if w = fkNames.getD k [] then (k : Int) + 1 else kindN w k
theorem kindN_t {w y : List UInt8} {k : Nat} (hy : fkNames[k]? = some y) (h : w = y) : kindN w (k + 1) = (k : Int) + 1 := by
  rw [kindN, List.getD_eq_getElem?_getD, hy]; exact if_pos h
theorem kindN_f {w y : List UInt8} {k : Nat} (hy : fkNames[k]? = some y) (h : ¬ w = y) : kindN w (k + 1) = kindN w k := by
  rw [kindN, List.getD_eq_getElem?_getD, hy]; exact if_neg h
theorem kind_no {w : List UInt8} (h1 : ¬ w = [116, 97, 107, 101]) (h2 : ¬ w = [115, 111, 119]) (h3 : ¬ w = [99, 97, 112, 116, 117, 114, 101]) (h4 : ¬ w = [115, 112, 97, 114, 101]) (h5 : ¬ w = [97, 103, 97, 105, 110]) (h6 : ¬ w = [116, 117, 114, 110]) : kindOf w = 0 := by
  have : Nix fkNames w 6 := fun i _ e => by
    have := List.mem_of_getElem? e
    simp only [fkNames, List.mem_cons, List.not_mem_nil, or_false] at this
    rcases this with rfl | rfl | rfl | rfl | rfl | rfl <;> contradiction
  unfold kindOf; rw [this.miss (Nat.le_refl _)]; rfl
theorem kindN_6 (w : List UInt8) : kindN w 6 = kindOf w := by
  by_cases h1 : w = [116, 97, 107, 101]
  · subst h1; decide
  by_cases h2 : w = [115, 111, 119]
  · subst h2; decide
  by_cases h3 : w = [99, 97, 112, 116, 117, 114, 101]
  · subst h3; decide
  by_cases h4 : w = [115, 112, 97, 114, 101]
  · subst h4; decide
  by_cases h5 : w = [97, 103, 97, 105, 110]
  · subst h5; decide
  by_cases h6 : w = [116, 117, 114, 110]
  · subst h6; decide
  rw [kind_no h1 h2 h3 h4 h5 h6]
  simp [kindN, fkNames, h1, h2, h3, h4, h5, h6]
section
variable {s : List UInt8} {K P : Int}
theorem facS_4 (hl : (split 32 s).length = 4) (hK : kindOf (wn s 0) = K) (hP : (if (num (wn s 3)).2 = true then (num (wn s 3)).1 else -1) = P) : facS s = ⟨K, P, (num (wn s 1)).1⟩ := by unfold facS; rw [if_pos hl, hK, hP]
theorem facS_n (hl : ¬ (split 32 s).length = 4) (hK : kindOf (wn s 0) = K) : facS s = ⟨K, 0, 0⟩ := by unfold facS; rw [if_neg hl, hK]
theorem facI_4 (hl : (split 32 s).length = 4) (hK : kindOf (wn s 0) = K) (hP : (if wn s 3 = [115, 116, 111, 114, 101] then -1 else (num (wn s 3)).1) = P) : facI s = ⟨K, P, (num (wn s 1)).1⟩ := by unfold facI; rw [if_pos hl, hK, hP]
theorem facI_n (hl : ¬ (split 32 s).length = 4) (hK : kindOf (wn s 0) = K) : facI s = ⟨K, 0, 0⟩ := by unfold facI; rw [if_neg hl, hK]
end
theorem readF_yS {s : List UInt8} {f : Fct} (e : facS s = f) (h : canW f = true) (h2 : factT0 f = s) : readF s = (f, true) := by subst e; exact readF_y h h2
theorem readF_nS {s : List UInt8} {f : Fct} (e : facS s = f) (h : ¬ (canW f = true ∧ factT0 f = s)) : readF s = (Fct.zero, false) := by subst e; exact readF_n h
theorem readF_yI {s : List UInt8} {f : Fct} (e : facI s = f) (h : factT f = s) (h2 : ¬ s = []) : readF s = (f, true) := by subst e; exact readF_I h h2
theorem readF_nI {s : List UInt8} {f : Fct} (e : facI s = f) (h : ¬ (factT f = s ∧ ¬ s = [])) : readF s = (Fct.zero, false) := by subst e; exact readF_J h
theorem why_law (r : Rul) (p : Pos) (move : Int) : ((explR r p move).2 ≠ 0 → (whyR r p move).2 = (explR r p move).2) ∧ ((explR r p move).2 = 0 → (whyR r p move).2 = 0 → (explR r p move).1 = [(whyR r p move).1]) ∧
    ((explR r p move).2 = 0 → (whyR r p move).2 ≠ 0 → (whyR r p move).2 = 3 ∧ 0 < (explR r p move).1.length ∧ (make r p move).2 = 0) := by
  by_cases ho : okP r p = false
  · rw [explR_1 ho, whyR_1 (make_1.2 ho)]
    exact ⟨fun _ => rfl, fun h => absurd h (by decide), fun h => absurd h (by decide)⟩
  · by_cases h : (make r p move).2 = 0
    · rw [explR_f h, whyR_0 h]
      refine ⟨fun h9 => absurd rfl h9, fun _ h9 => absurd h9 (by decide), fun _ _ => ⟨rfl, ?_, h⟩⟩
      show 0 < ((factsF r p move).map factT0).length
      rw [List.length_map]; unfold factsF; rw [List.length_append]; exact Nat.lt_of_lt_of_le (Nat.lt_succ_self _) (Nat.le_add_left _ _)
    · have h1 : ¬ (make r p move).2 = 1 := fun e => ho (make_1.1 e)
      rw [explR_w ho h, whyR_w h h1 rfl]
      exact ⟨fun h9 => absurd rfl h9, fun _ _ => rfl, fun _ h9 => absurd rfl h9⟩
theorem canW_p {f : Fct} {low : Int} (hk : f.kind = 1 ∨ f.kind = 2 ∨ f.kind = 3 ∨ f.kind = 4) (hl : low = if f.kind = 2 then -1 else 0) : canW f = (betw f.place low 15 && betw f.count 1 96) := by
  unfold canW
  rw [if_neg (by omega), if_pos (by omega), Bool.eq_iff_iff]
  simp only [Bool.and_eq_true, Bool.or_eq_true, decide_eq_true_eq, betw_iff]
  split at hl <;> omega
theorem canW_w {f : Fct} (hk : f.kind = 5 ∨ f.kind = 6) : canW f = (decide (f.place = 0) && decide (f.count = 0)) := if_pos hk
theorem canW_o {f : Fct} (h1 : ¬ f.kind = 1) (h2 : ¬ f.kind = 2) (h3 : ¬ f.kind = 3) (h4 : ¬ f.kind = 4) (h5 : ¬ f.kind = 5) (h6 : ¬ f.kind = 6) : canW f = false := by
  unfold canW; rw [if_neg (by omega), if_neg (by omega)]
theorem factT_len (f : Fct) : (factT f).length ≤ 100 := by
  unfold factT; split
  · exact factT0_len f
  · exact Nat.zero_le _
theorem split_p (b : UInt8) (l : List UInt8) : 0 < (split b l).length := List.length_pos_iff.2 (split_ne b l)
theorem facS_bd (s : List UInt8) : -999999999999999999 ≤ (facS s).count ∧ (facS s).count ≤ 999999999999999999 ∧ -999999999999999999 ≤ (facS s).place ∧ (facS s).place ≤ 999999999999999999 := by
  have a := num_bd (wn s 1); have b := num_bd (wn s 3)
  unfold facS
  split
  · dsimp only; split <;> omega
  · dsimp only; omega
end Go.Proofs.YtjgohnaobbphpaaGreatDoor.M
namespace Go.Proofs.YtjgohnaobbphpaaGreatDoor
open Go.RowKit
section
variable {P : Program} {n lo : Nat} {B : List Nat} {Q : Exit → Act → World → Prop} {cs : List Code} {l : Fr} {os os' : List Own} {u : World}
theorem giveL (ks : List Nat) {w w₀ : World} {bs : List Own} {fr : List Own} {m : Nat} (hb : Bw w₀ bs) (x : Up w₀.heap.size (offW w₀ (bs.flatMap (·.fp))) u) (hp : PP os ks os') (hf : NL (os'.take m) fr)
    (hw : St w₀.heap.size (bs.flatMap (·.fp)) u w os) : St w₀.heap.size (bs.flatMap (·.fp)) u w (fr ++ [anyO ((os'.drop m).flatMap (·.fp))]) := by
  have hpm := hp.perm
  have e : os' = fr ++ os'.drop m := by rw [← hf.eq, List.take_append_drop]
  exact hw.conv (fun o ho => by
    rcases List.mem_append.1 ho with ho | ho
    · exact hw.prs o (hpm.mem_iff.2 (by rw [e]; exact List.mem_append_left _ ho))
    · simp at ho; subst ho; trivial) (by
    have := hpm.symm.flatMap_right (fun o : Own => o.fp)
    rw [e, List.flatMap_append] at this
    rw [List.flatMap_append]
    simpa [anyO] using this)
theorem zrbE (ks : List Nat) {fn : Func} {R : Value → List Own → Prop} {w₀ : World} {bs : List Own} {fr : List Own} {m : Nat} (hb : Bw w₀ bs) (x : Up w₀.heap.size (offW w₀ (bs.flatMap (·.fp))) u) (h : R (.tuple #[]) fr)
    (hr : fn.results = #[] := by rfl) (hm : ks.length = m := by rfl) (hp : PP os ks os' := by exact pp_) (hf : NL (os'.take m) fr := by exact nl) :
    Js P n w₀.heap.size (bs.flatMap (·.fp)) (bodyPost P fn (RB w₀ bs R)) [] l os u := Js.end_ fun a w ha hw =>
  ⟨ha.dfr, .tuple #[], by unfold results; rw [hr]; simp, _, fr, _, rfl, h, (giveL ks hb x hp hf hw).giveBack hb x⟩
end
theorem p_idxS {P : Program} {n : Nat} {l : Fr} {dst : Option Tmp} {ty : TypeId} {pos : String} {af : Array Edge} {gd : Option (Nat × Bool)} {x y : Operand} {t e : TypeId} {m kk : Nat} {names : List (List UInt8)} {s : List UInt8} {i : Int}
    (hu : P.underlying t = some (.array m e)) (he : tyOf P e = some (false, 1)) (h1 : opd l x = some (.agg (txs_ names).toArray)) (h2 : opd l y = some (.int .i64 i)) (hi : i = (kk : Int)) (hk : kk < m) (hy : names[kk]? = some s) :
    OpP P n l ⟨dst, .index t x y, ty, pos, af, gd⟩ (.string (sB s)) := fun a w ha => by
  subst hi
  obtain ⟨h3, h4⟩ := run_isAgg (P := P) w he
  have h5 : (kk : Int).toNat = kk := rfl
  have h6 : (txs_ names)[kk]? = some (.string (sB s)) := txs_get hy
  have h7 : ((txs_ names).toArray)[kk]? = some (.string (sB s)) := by simpa using h6
  simp [execOp, ha.eval h1, ha.eval h2, Instr.index, asIntOf, run_underlying hu, hk, h4, h5, part, h3, h7, hy, Result.andThen]
end Go.Proofs.YtjgohnaobbphpaaGreatDoor
namespace Go.Proofs.YtjgohnaobbphpaaGreatDoor.M
def MvU (l : List Int) (k : Nat) : Prop := ∀ i : Nat, i < k → betw (nth l i) 0 7 = true
theorem MvU.zero (l : List Int) : MvU l 0 := fun i h => absurd h (by omega)
theorem MvU.step {l : List Int} {k : Nat} (h : MvU l k) (hk : betw (nth l k) 0 7 = true) : MvU l (k + 1) := fun i hi => by
  rcases Nat.lt_succ_iff_lt_or_eq.1 hi with h9 | h9
  · exact h i h9
  · subst h9; exact hk
theorem MvU.done {l : List Int} {k : Nat} (h : MvU l k) (hk : l.length ≤ k) : l.all (betw · 0 7) = true := List.all_eq_true.2 fun x hx => by
  obtain ⟨i, hi⟩ := List.mem_iff_getElem?.1 hx
  have hil := (List.getElem?_eq_some_iff.1 hi).1
  have := h i (by omega)
  rw [show nth l i = x by simp [nth, List.getD, hi]] at this
  exact this
end Go.Proofs.YtjgohnaobbphpaaGreatDoor.M

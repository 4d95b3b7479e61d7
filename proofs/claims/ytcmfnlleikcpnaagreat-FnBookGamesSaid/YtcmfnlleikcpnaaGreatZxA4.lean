/- Plain mathematics of books: what is counted is found again; merging does not hang on the order. -/
import Derived.Test.YtcmfnlleikcpnaaGreatZxA3
set_option linter.unusedSimpArgs false
set_option linter.unusedVariables false
namespace Go.Proofs.YtcmfnlleikcpnaaGreat.M
theorem addC_cons (x : Cho) (cs : List Cho) (c : Cho) : addC (x :: cs) c = if c.move ≤ x.move then (if x.move = c.move then ⟨c.move, x.games + c.games, x.score + c.score⟩ :: cs else c :: x :: cs) else x :: addC cs c := by
  unfold addC
  rw [findC]
  by_cases h : c.move ≤ x.move
  · rw [if_pos h, if_pos h]
    by_cases h2 : x.move = c.move
    · rw [if_pos h2, if_pos ⟨by simp, by simpa [cho] using h2⟩]; rfl
    · rw [if_neg h2, if_neg (fun q => h2 (by simpa [cho] using q.2))]; rfl
  · rw [if_neg h, if_neg h, Nat.add_comm 1]
    have e : cho (x :: cs) (findC cs c.move + 1) = cho cs (findC cs c.move) := rfl
    rw [e, List.length_cons]
    by_cases h2 : findC cs c.move < cs.length ∧ (cho cs (findC cs c.move)).move = c.move
    · rw [if_pos h2, if_pos ⟨by omega, h2.2⟩]; rfl
    · rw [if_neg h2, if_neg (fun q => h2 ⟨by omega, q.2⟩)]; rfl
def Rise (cs : List Cho) : Prop := cs.Pairwise fun a b => a.move < b.move
theorem rise_of {cs : List Cho} (h : RiseC cs) : Rise cs := by
  unfold Rise
  rw [List.pairwise_iff_getElem]
  intro i j hi hj hij
  have := h i j hij hj
  simpa [cho, List.getD, hi, hj] using this
theorem addC_lt {cs : List Cho} {c : Cho} {n : Int} (h : ∀ y ∈ cs, n < y.move) (hc : n < c.move) : ∀ y ∈ addC cs c, n < y.move := fun y hy => by
  rcases addC_mem hy with hy | rfl | ⟨x, hx, rfl⟩
  · exact h y hy
  · exact hc
  · exact hc
theorem Rise.add : ∀ {cs : List Cho} (c : Cho), Rise cs → Rise (addC cs c)
  | [], c, _ => by rw [addC_nil]; simp [Rise]
  | x :: cs, c, h => by
    obtain ⟨h1, h2⟩ := List.pairwise_cons.1 h
    rw [addC_cons]
    by_cases hc : c.move ≤ x.move
    · rw [if_pos hc]
      by_cases he : x.move = c.move
      · rw [if_pos he]; exact List.pairwise_cons.2 ⟨fun y hy => by have := h1 y hy; simp only; omega, h2⟩
      · rw [if_neg he]
        refine List.pairwise_cons.2 ⟨fun y hy => ?_, h⟩
        rcases List.mem_cons.1 hy with rfl | hy
        · omega
        · have := h1 y hy; omega
    · rw [if_neg hc]
      exact List.pairwise_cons.2 ⟨addC_lt h1 (by omega), Rise.add c h2⟩
def getC : List Cho → Int → Option (Int × Int)
  | [], _ => none
  | c :: cs, m => if c.move = m then some (c.games, c.score) else getC cs m
def oadd : Option (Int × Int) → Option (Int × Int) → Option (Int × Int)
  | none, b => b
  | a, none => a
  | some a, some b => some (a.1 + b.1, a.2 + b.2)
theorem oadd_none (a : Option (Int × Int)) : oadd a none = a := by cases a <;> rfl
theorem oadd_assoc (a b c : Option (Int × Int)) : oadd (oadd a b) c = oadd a (oadd b c) := by
  cases a <;> cases b <;> cases c <;> simp [oadd, Int.add_assoc]
theorem getC_none {cs : List Cho} {m : Int} (h : ∀ y ∈ cs, m < y.move) : getC cs m = none := by
  induction cs with
  | nil => rfl
  | cons x cs ih =>
    have := h x (by simp)
    rw [getC, if_neg (by omega), ih fun y hy => h y (by simp [hy])]
theorem getC_add : ∀ {cs : List Cho} (c : Cho) (m : Int), Rise cs → getC (addC cs c) m = oadd (getC cs m) (if c.move = m then some (c.games, c.score) else none)
  | [], c, m, _ => by rw [addC_nil]; rfl
  | x :: cs, c, m, h => by
    obtain ⟨h1, h2⟩ := List.pairwise_cons.1 h
    rw [addC_cons]
    by_cases hc : c.move ≤ x.move
    · rw [if_pos hc]
      by_cases he : x.move = c.move
      · rw [if_pos he, getC, getC]
        by_cases hm : c.move = m
        · rw [if_pos hm, if_pos (by omega), if_pos hm]; rfl
        · rw [if_neg hm, if_neg (by omega), if_neg hm, oadd_none]
      · rw [if_neg he, getC]
        by_cases hm : c.move = m
        · rw [if_pos hm, if_pos hm, getC_none (cs := x :: cs)]
          · rfl
          · intro y hy
            rcases List.mem_cons.1 hy with rfl | hy
            · omega
            · have := h1 y hy; omega
        · rw [if_neg hm, if_neg hm, oadd_none]
    · rw [if_neg hc, getC, getC]
      by_cases hm : x.move = m
      · rw [if_pos hm, if_pos hm, if_neg (by omega), oadd_none]
      · rw [if_neg hm, if_neg hm]; exact getC_add c m h2
theorem getC_head {x : Cho} {cs : List Cho} : getC (x :: cs) x.move = some (x.games, x.score) := by rw [getC, if_pos rfl]
theorem rise_ext : ∀ {cs ds : List Cho}, Rise cs → Rise ds → (∀ m, getC cs m = getC ds m) → cs = ds
  | [], [], _, _, _ => rfl
  | [], y :: ds, _, _, h => by have := h y.move; rw [getC_head] at this; cases this
  | x :: cs, [], _, _, h => by have := h x.move; rw [getC_head] at this; cases this
  | x :: cs, y :: ds, hc, hd, h => by
    obtain ⟨h1, h2⟩ := List.pairwise_cons.1 hc
    obtain ⟨k1, k2⟩ := List.pairwise_cons.1 hd
    have e : x.move = y.move := by
      rcases Int.lt_trichotomy x.move y.move with q | q | q
      · have := h x.move
        rw [getC_head, getC_none (cs := y :: ds)] at this
        · cases this
        · intro z hz
          rcases List.mem_cons.1 hz with rfl | hz
          · exact q
          · have := k1 z hz; omega
      · exact q
      · have := h y.move
        rw [getC_head, getC_none (cs := x :: cs)] at this
        · cases this
        · intro z hz
          rcases List.mem_cons.1 hz with rfl | hz
          · exact q
          · have := h1 z hz; omega
    have e2 := h x.move
    rw [getC_head, e, getC_head] at e2
    simp only [Option.some.injEq, Prod.mk.injEq] at e2
    have e3 : x = y := cho_ext e e2.1 e2.2
    subst e3
    rw [rise_ext h2 k2 fun m => ?_]
    have := h m
    rw [getC, getC] at this
    by_cases hm : x.move = m
    · subst hm; rw [getC_none h1, getC_none k1]
    · rw [if_neg hm, if_neg hm] at this; exact this
def addCs (cs : List Cho) (l : List Cho) : List Cho := l.foldl addC cs
def sumC : List Cho → Int → Option (Int × Int)
  | [], _ => none
  | c :: l, m => oadd (if c.move = m then some (c.games, c.score) else none) (sumC l m)
theorem Rise.adds : ∀ (l : List Cho) {cs : List Cho}, Rise cs → Rise (addCs cs l)
  | [], _, h => h
  | c :: l, _, h => Rise.adds l (h.add c)
theorem getC_adds : ∀ (l : List Cho) {cs : List Cho} (m : Int), Rise cs → getC (addCs cs l) m = oadd (getC cs m) (sumC l m)
  | [], cs, m, _ => (oadd_none _).symm
  | c :: l, cs, m, h => by
    show getC (addCs (addC cs c) l) m = _
    rw [getC_adds l m (h.add c), getC_add c m h, oadd_assoc]; rfl
theorem sumC_none {l : List Cho} {m : Int} (h : ∀ y ∈ l, m < y.move) : sumC l m = none := by
  induction l with
  | nil => rfl
  | cons x l ih =>
    have := h x (by simp)
    rw [sumC, if_neg (by omega), ih fun y hy => h y (by simp [hy])]; rfl
theorem sumC_rise : ∀ {l : List Cho} (m : Int), Rise l → sumC l m = getC l m
  | [], _, _ => rfl
  | x :: l, m, h => by
    obtain ⟨h1, h2⟩ := List.pairwise_cons.1 h
    rw [sumC, getC]
    by_cases hm : x.move = m
    · subst hm; rw [if_pos rfl, if_pos rfl, sumC_none h1]; rfl
    · rw [if_neg hm, if_neg hm, sumC_rise m h2]; rfl
theorem adds_adds {cs l : List Cho} (h : Rise cs) : addCs cs (addCs [] l) = addCs cs l := by
  have h0 : Rise [] := List.Pairwise.nil
  refine rise_ext (Rise.adds _ h) (Rise.adds _ h) fun m => ?_
  rw [getC_adds _ m h, getC_adds _ m h, sumC_rise m (Rise.adds l h0), getC_adds l m h0]; rfl
theorem hasE_cons (e : Ent) (es : List Ent) (p : List Int) (h : ¬ 0 ≤ cmpL e.pits p) : hasE (e :: es) p = hasE es p := by
  unfold hasE
  rw [findE, if_neg h]
  have e1 : ent (e :: es) (findE es p + 1) = ent es (findE es p) := rfl
  rw [e1]
  congr 1
  rw [decide_eq_decide, List.length_cons]; omega
theorem hasE_cons0 (e : Ent) (es : List Ent) (p : List Int) (h : 0 ≤ cmpL e.pits p) : hasE (e :: es) p = decide (e.pits = p) := by
  unfold hasE
  rw [findE, if_pos h]
  have e1 : ent (e :: es) 0 = e := rfl
  rw [e1]
  simp only [List.length_cons, Nat.zero_lt_succ, decide_true, Bool.true_and]
  rw [decide_eq_decide]; exact cmpL_eq
theorem addE_nil (p : List Int) (c : Cho) : addE [] p c = [⟨p, [c]⟩] := by simp [addE, hasE, findE]
theorem addE_cons (e : Ent) (es : List Ent) (p : List Int) (c : Cho) : addE (e :: es) p c = if 0 ≤ cmpL e.pits p then (if e.pits = p then ⟨p, addC e.choices c⟩ :: es else ⟨p, [c]⟩ :: e :: es) else e :: addE es p c := by
  unfold addE
  by_cases h : 0 ≤ cmpL e.pits p
  · rw [if_pos h, hasE_cons0 e es p h, findE, if_pos h]
    by_cases h2 : e.pits = p
    · rw [if_pos h2, if_pos (by simpa using h2)]; rfl
    · rw [if_neg h2, if_neg (by simpa using h2)]; rfl
  · rw [if_neg h, hasE_cons e es p h, findE, if_neg h]
    have e1 : ent (e :: es) (findE es p + 1) = ent es (findE es p) := rfl
    rw [e1]
    by_cases h2 : hasE es p = true
    · rw [if_pos h2, if_pos h2]; rfl
    · rw [if_neg h2, if_neg h2]; rfl
structure Can (es : List Ent) : Prop where
  so : es.Pairwise fun a b => cmpL a.pits b.pits < 0
  ri : ∀ x ∈ es, Rise x.choices ∧ x.choices ≠ []
theorem Can.nil : Can [] := ⟨List.Pairwise.nil, fun x h => by simp at h⟩
theorem Can.tail {e : Ent} {es : List Ent} (h : Can (e :: es)) : Can es := ⟨(List.pairwise_cons.1 h.so).2, fun x hx => h.ri x (by simp [hx])⟩
theorem cmpL_gt0 {a b : List Int} (h : 0 ≤ cmpL a b) (hn : a ≠ b) : cmpL b a < 0 := by
  rw [cmpL_neg]
  have : cmpL a b ≠ 0 := fun h0 => hn (cmpL_eq.1 h0)
  omega
theorem cmpL_irr {a : List Int} (h : cmpL a a < 0) : False := by rw [cmpL_eq.2 rfl] at h; omega
theorem addC_ne (cs : List Cho) (c : Cho) : addC cs c ≠ [] := fun h => by
  have := addC_pos cs c; rw [h] at this; simp at this
theorem addE_lt {es : List Ent} {q p : List Int} {c : Cho} (h : ∀ x ∈ es, cmpL q x.pits < 0) (hp : cmpL q p < 0) : ∀ x ∈ addE es p c, cmpL q x.pits < 0 := fun x hx => by
  rcases addE_mem hx with hx | rfl | ⟨y, hy, rfl⟩
  · exact h x hx
  · exact hp
  · exact hp
theorem Can.add : ∀ {es : List Ent} (p : List Int) (c : Cho), Can es → Can (addE es p c)
  | [], p, c, _ => by
    rw [addE_nil]
    exact ⟨by simp, fun x hx => by simp at hx; subst hx; simp [Rise]⟩
  | e :: es, p, c, h => by
    obtain ⟨h1, h2⟩ := List.pairwise_cons.1 h.so
    rw [addE_cons]
    by_cases hc : 0 ≤ cmpL e.pits p
    · rw [if_pos hc]
      by_cases he : e.pits = p
      · rw [if_pos he]
        refine ⟨List.pairwise_cons.2 ⟨fun y hy => by have := h1 y hy; rw [he] at this; exact this, h2⟩, fun x hx => ?_⟩
        rcases List.mem_cons.1 hx with rfl | hx
        · exact ⟨(h.ri e (by simp)).1.add c, addC_ne _ _⟩
        · exact h.ri x (by simp [hx])
      · rw [if_neg he]
        have hlt := cmpL_gt0 hc he
        refine ⟨List.pairwise_cons.2 ⟨fun y hy => ?_, h.so⟩, fun x hx => ?_⟩
        · rcases List.mem_cons.1 hy with rfl | hy
          · exact hlt
          · exact cmpL_trans hlt (h1 y hy)
        · rcases List.mem_cons.1 hx with rfl | hx
          · simp [Rise]
          · exact h.ri x hx
    · rw [if_neg hc]
      have ht := Can.add p c h.tail
      refine ⟨List.pairwise_cons.2 ⟨addE_lt h1 (by omega), ht.so⟩, fun x hx => ?_⟩
      rcases List.mem_cons.1 hx with rfl | hx
      · exact h.ri _ (by simp)
      · exact ht.ri x hx
theorem lookE_none {es : List Ent} {p : List Int} (h : ∀ x ∈ es, cmpL p x.pits < 0) : lookE es p = [] := by
  induction es with
  | nil => rfl
  | cons x es ih =>
    have h1 := h x (by simp)
    rw [lookE, if_neg (fun e => by rw [e] at h1; exact cmpL_irr h1), ih fun y hy => h y (by simp [hy])]
theorem lookE_add : ∀ {es : List Ent} (p : List Int) (c : Cho) (q : List Int), Can es → lookE (addE es p c) q = if p = q then addC (lookE es q) c else lookE es q
  | [], p, c, q, _ => by
    rw [addE_nil, lookE]
    simp only [lookE, addC_nil]
  | e :: es, p, c, q, h => by
    obtain ⟨h1, h2⟩ := List.pairwise_cons.1 h.so
    rw [addE_cons]
    by_cases hc : 0 ≤ cmpL e.pits p
    · rw [if_pos hc]
      by_cases he : e.pits = p
      · rw [if_pos he, lookE, lookE]
        by_cases hq : p = q
        · rw [if_pos hq, if_pos hq, if_pos (he.trans hq)]
        · rw [if_neg hq, if_neg hq, if_neg (by rw [he]; exact hq)]
      · rw [if_neg he, lookE]
        have hlt := cmpL_gt0 hc he
        by_cases hq : p = q
        · subst hq
          rw [if_pos rfl, if_pos rfl, lookE_none (es := e :: es), addC_nil]
          intro x hx
          rcases List.mem_cons.1 hx with rfl | hx
          · exact hlt
          · exact cmpL_trans hlt (h1 x hx)
        · rw [if_neg hq, if_neg hq]
    · rw [if_neg hc, lookE, lookE]
      by_cases hq : e.pits = q
      · rw [if_pos hq, if_pos hq, if_neg (fun e2 => by rw [hq, e2, cmpL_eq.2 rfl] at hc; omega)]
      · rw [if_neg hq, if_neg hq]; exact lookE_add p c q h.tail
theorem lookE_head {e : Ent} {es : List Ent} : lookE (e :: es) e.pits = e.choices := by rw [lookE, if_pos rfl]
theorem can_ext : ∀ {es fs : List Ent}, Can es → Can fs → (∀ p, lookE es p = lookE fs p) → es = fs
  | [], [], _, _, _ => rfl
  | [], y :: fs, _, k, h => by have := h y.pits; rw [lookE_head] at this; exact absurd this.symm (k.ri y (by simp)).2
  | x :: es, [], k, _, h => by have := h x.pits; rw [lookE_head] at this; exact absurd this (k.ri x (by simp)).2
  | x :: es, y :: fs, hc, hd, h => by
    obtain ⟨h1, h2⟩ := List.pairwise_cons.1 hc.so
    obtain ⟨k1, k2⟩ := List.pairwise_cons.1 hd.so
    have e : x.pits = y.pits := by
      refine Classical.byContradiction fun hn => ?_
      by_cases q : 0 ≤ cmpL x.pits y.pits
      · have hlt := cmpL_gt0 q hn
        have := h y.pits
        rw [lookE_head, lookE_none (es := x :: es)] at this
        · exact (hd.ri y (by simp)).2 this.symm
        · intro z hz
          rcases List.mem_cons.1 hz with rfl | hz
          · exact hlt
          · exact cmpL_trans hlt (h1 z hz)
      · have := h x.pits
        rw [lookE_head, lookE_none (es := y :: fs)] at this
        · exact (hc.ri x (by simp)).2 this
        · intro z hz
          rcases List.mem_cons.1 hz with rfl | hz
          · omega
          · exact cmpL_trans (by omega) (k1 z hz)
    have e2 := h x.pits
    rw [lookE_head, e, lookE_head] at e2
    have e3 : x = y := ent_ext e e2
    subst e3
    rw [can_ext hc.tail hd.tail fun p => ?_]
    have := h p
    rw [lookE, lookE] at this
    by_cases hp : x.pits = p
    · subst hp; rw [lookE_none h1, lookE_none k1]
    · rw [if_neg hp, if_neg hp] at this; exact this
def addEs (es : List Ent) (l : List (List Int × Cho)) : List Ent := l.foldl (fun es x => addE es x.1 x.2) es
def ofP (l : List (List Int × Cho)) (p : List Int) : List Cho := (l.filter fun x => decide (x.1 = p)).map (·.2)
theorem Can.adds : ∀ (l : List (List Int × Cho)) {es : List Ent}, Can es → Can (addEs es l)
  | [], _, h => h
  | x :: l, _, h => Can.adds l (h.add x.1 x.2)
theorem lookE_adds : ∀ (l : List (List Int × Cho)) {es : List Ent} (p : List Int), Can es → lookE (addEs es l) p = addCs (lookE es p) (ofP l p)
  | [], es, p, _ => rfl
  | x :: l, es, p, h => by
    show lookE (addEs (addE es x.1 x.2) l) p = _
    rw [lookE_adds l p (h.add x.1 x.2), lookE_add x.1 x.2 p h]
    unfold ofP
    by_cases hp : x.1 = p
    · rw [if_pos hp, List.filter_cons_of_pos (by simpa using hp), List.map_cons]; rfl
    · rw [if_neg hp, List.filter_cons_of_neg (by simpa using hp)]
def flatE (es : List Ent) : List (List Int × Cho) := es.flatMap fun e => e.choices.map fun c => (e.pits, c)
theorem addEs_app (es : List Ent) (a b : List (List Int × Cho)) : addEs es (a ++ b) = addEs (addEs es a) b := List.foldl_append
theorem addAll_adds (es : List Ent) (p : List Int) : ∀ cs : List Cho, addAll es p cs = addEs es (cs.map fun c => (p, c)) := fun cs => by
  unfold addAll addEs; rw [List.foldl_map]
theorem merge_adds : ∀ (es2 es : List Ent), mergeE es es2 = addEs es (flatE es2)
  | [], es => rfl
  | e :: es2, es => by
    show mergeE (addAll es e.pits e.choices) es2 = _
    rw [merge_adds es2, addAll_adds, ← addEs_app]; rfl
theorem ofP_app (a b : List (List Int × Cho)) (p : List Int) : ofP (a ++ b) p = ofP a p ++ ofP b p := by unfold ofP; rw [List.filter_append, List.map_append]
theorem ofP_map (q p : List Int) (cs : List Cho) : ofP (cs.map fun c => (q, c)) p = if q = p then cs else [] := by
  induction cs with
  | nil => simp [ofP]
  | cons c cs ih =>
    unfold ofP at ih ⊢
    rw [List.map_cons]
    by_cases h : q = p
    · rw [List.filter_cons_of_pos (by simpa using h), List.map_cons, ih, if_pos h, if_pos h]
    · rw [List.filter_cons_of_neg (by simpa using h), ih, if_neg h, if_neg h]
theorem ofP_flat : ∀ {es : List Ent} (p : List Int), Can es → ofP (flatE es) p = lookE es p
  | [], p, _ => rfl
  | e :: es, p, h => by
    have e1 : flatE (e :: es) = (e.choices.map fun c => (e.pits, c)) ++ flatE es := rfl
    rw [e1, ofP_app, ofP_map, ofP_flat p h.tail, lookE]
    by_cases hp : e.pits = p
    · subst hp
      rw [if_pos rfl, if_pos rfl, lookE_none (List.pairwise_cons.1 h.so).1, List.append_nil]
    · rw [if_neg hp, if_neg hp, List.nil_append]
theorem can_rise {es : List Ent} (h : Can es) (p : List Int) : Rise (lookE es p) := by
  induction es with
  | nil => exact List.Pairwise.nil
  | cons e es ih =>
    rw [lookE]; split
    · exact (h.ri e (by simp)).1
    · exact ih h.tail
theorem merge_of {es : List Ent} (h : Can es) (l : List (List Int × Cho)) : mergeE es (addEs [] l) = addEs es l := by
  have h0 := Can.adds l Can.nil
  rw [merge_adds]
  refine can_ext (Can.adds _ h) (Can.adds _ h) fun p => ?_
  rw [lookE_adds _ p h, lookE_adds _ p h, ofP_flat p h0, lookE_adds l p Can.nil]
  exact adds_adds (can_rise h p)
theorem okB_can {b : Boo} (h : okB b = true) : Can b.entries := by
  refine ⟨?_, fun x hx => ?_⟩
  · rw [List.pairwise_iff_getElem]
    intro i j hi hj hij
    have := okB_sort h i j hij hj
    simpa [ent, List.getD, hi, hj] using this
  · have h1 := okE_parts (okB_all h x hx)
    exact ⟨rise_of (riseC_of h1.2.2), fun e => by rw [e] at h1; simp at h1⟩
structure GoodC (r : Rul) (p : List Int) (c : Cho) : Prop where
  lg : (make r (posE p) c.move).2 = 0
  g1 : 1 ≤ c.games
  g2 : c.games ≤ 1000000
  s1 : 0 ≤ c.score
  s2 : c.score ≤ 2 * c.games
structure GoodE (r : Rul) (x : Ent) : Prop where
  po : okP r (posE x.pits) = true
  ne : x.choices ≠ []
  ri : Rise x.choices
  ch : ∀ c ∈ x.choices, GoodC r x.pits c
theorem cho_eq {cs : List Cho} {i : Nat} (h : i < cs.length) : cho cs i = cs[i] := by simp [cho, List.getD, h]
theorem ent_eq {es : List Ent} {i : Nat} (h : i < es.length) : ent es i = es[i] := by simp [ent, List.getD, h]
theorem okE_of {r : Rul} {x : Ent} (h : GoodE r x) : okE r x = true := by
  have hl : 0 < x.choices.length := List.length_pos_iff.2 h.ne
  have hr := List.pairwise_iff_getElem.1 h.ri
  unfold okE okCs
  rw [h.po, decide_eq_true hl]
  simp only [Bool.true_and]
  rw [List.all_eq_true]
  intro k hk
  have hk := List.mem_range.1 hk
  have hc := h.ch _ (cho_mem hk)
  unfold chAt
  simp only [Bool.and_eq_true, Bool.or_eq_true, decide_eq_true_eq]
  refine ⟨⟨⟨?_, hc.lg⟩, betw_iff.2 ⟨hc.g1, hc.g2⟩⟩, betw_iff.2 ⟨hc.s1, hc.s2⟩⟩
  by_cases h0 : k = 0
  · exact .inl h0
  · right
    have := hr (k - 1) k (by omega) hk (by omega)
    rw [cho_eq hk, cho_eq (by omega)]; exact this
theorem goodE_of {r : Rul} {x : Ent} (h : okE r x = true) : GoodE r x := by
  obtain ⟨h1, h2, h3⟩ := okE_parts h
  refine ⟨h1, fun e => by rw [e] at h2; simp at h2, rise_of (riseC_of h3), fun c hc => ?_⟩
  obtain ⟨i, hi⟩ := List.mem_iff_getElem?.1 hc
  have hil := (List.getElem?_eq_some_iff.1 hi).1
  have := all_at h3 hil
  unfold chAt at this
  simp only [Bool.and_eq_true, decide_eq_true_eq] at this
  rw [show cho x.choices i = c by simp [cho, List.getD, hi]] at this
  have a := betw_iff.1 this.1.2
  have b := betw_iff.1 this.2
  exact ⟨this.1.1.2, a.1, a.2, b.1, b.2⟩
theorem okB_of {r : Rul} {es : List Ent} (hr : okR r = true) (hl : es.length ≤ 200) (hs : es.Pairwise fun a b => cmpL a.pits b.pits < 0) (h : ∀ x ∈ es, GoodE r x) : okB ⟨r, es⟩ = true := by
  rw [okB_es hr hl, List.all_eq_true]
  intro k hk
  have hk := List.mem_range.1 hk
  unfold entAt
  simp only [Bool.and_eq_true, Bool.or_eq_true, decide_eq_true_eq]
  refine ⟨?_, okE_of (h _ (ent_mem hk))⟩
  by_cases h0 : k = 0
  · exact .inl h0
  · right
    have := List.pairwise_iff_getElem.1 hs (k - 1) k (by simp only at hk; omega) hk (by omega)
    show cmpL (ent es (k - 1)).pits (ent es k).pits < 0
    rw [ent_eq (es := es) hk, ent_eq (es := es) (by simp only at hk; omega)]; exact this
theorem okB_good {b : Boo} (h : okB b = true) : ∀ x ∈ b.entries, GoodE b.rules x := fun x hx => goodE_of (okB_all h x hx)
theorem prE_mem {lo : Int} {es : List Ent} {x : Ent} (h : x ∈ prE lo es) : ∃ y ∈ es, x = ⟨y.pits, prC lo y.choices⟩ ∧ x.choices ≠ [] := by
  unfold prE at h
  obtain ⟨h1, h2⟩ := List.mem_filter.1 h
  obtain ⟨y, hy, rfl⟩ := List.mem_map.1 h1
  refine ⟨y, hy, rfl, fun e => ?_⟩
  rw [e] at h2; simp at h2
theorem prE_ok {b : Boo} (lo : Int) (h : okB b = true) : okB ⟨b.rules, prE lo b.entries⟩ = true := by
  have hl := (okB_parts h).2.1
  have hc := okB_can h
  refine okB_of (okB_parts h).1 (Nat.le_trans (prE_len lo b.entries) (by simpa using hl)) ?_ (fun x hx => ?_)
  · unfold prE
    refine List.Pairwise.filter _ ?_
    rw [List.pairwise_map]
    exact hc.so
  · obtain ⟨y, hy, e, hn⟩ := prE_mem hx
    have hg := okB_good h y hy
    subst e
    exact ⟨hg.po, hn, List.Pairwise.filter _ hg.ri, fun c hc => hg.ch c (List.mem_filter.1 hc).1⟩
theorem prC_twice (lo : Int) (cs : List Cho) : prC lo (prC lo cs) = prC lo cs := by unfold prC; rw [List.filter_filter]; simp
theorem prE_cons (lo : Int) (e : Ent) (es : List Ent) : prE lo (e :: es) = if 0 < (prC lo e.choices).length then ⟨e.pits, prC lo e.choices⟩ :: prE lo es else prE lo es := by
  unfold prE; rw [List.map_cons, List.filter_cons]; simp
theorem prE_twice (lo : Int) : ∀ es : List Ent, prE lo (prE lo es) = prE lo es
  | [] => rfl
  | e :: es => by
    rw [prE_cons]; split
    · rename_i h
      rw [prE_cons]
      simp only [prC_twice]
      rw [if_pos h, prE_twice lo es]
    · exact prE_twice lo es
theorem prune_twice {b : Boo} {lo : Int} (h : (prune b lo).2 = 0) : prune (prune b lo).1 lo = ((prune b lo).1, 0) ∧ okB (prune b lo).1 = true := by
  by_cases h1 : okB b = true
  · by_cases h2 : betw lo 0 1000000 = true
    · have e := prune_0 h1 h2
      have hk := prE_ok lo h1
      rw [e, prune_0 hk h2]
      refine ⟨?_, hk⟩
      simp only [prE_twice]
    · rw [prune_2 h1 h2] at h; simp at h
  · rw [prune_1 h1] at h; simp at h
def adG (g : Gam) : List (List Int × Cho) := (gmL g).map fun x => ((viewP g.rules x.1).pits, ⟨x.2, 1, scG g x.1⟩)
theorem gmE_adds (g : Gam) (es : List Ent) : gmE g es (gmL g) = addEs es (adG g) := by
  unfold gmE addEs adG; rw [List.foldl_map]
theorem gam_merge {b : Boo} (h : okB b = true) (g : Gam) : mergeE b.entries (gmE g [] (gmL g)) = gmE g b.entries (gmL g) := by
  rw [gmE_adds, gmE_adds]; exact merge_of (okB_can h) (adG g)
theorem adG_one (g : Gam) : ∀ x ∈ adG g, x.2.games = 1 ∧ 0 ≤ x.2.score ∧ x.2.score ≤ 2 := fun x hx => by
  obtain ⟨y, _, rfl⟩ := List.mem_map.1 hx
  refine ⟨rfl, ?_, ?_⟩
  · show 0 ≤ scG g y.1; unfold scG; split <;> (try split) <;> omega
  · show scG g y.1 ≤ 2; unfold scG; split <;> (try split) <;> omega
theorem getC_mem {cs : List Cho} {m : Int} {x : Int × Int} (h : getC cs m = some x) : ∃ d ∈ cs, d.move = m ∧ d.games = x.1 ∧ d.score = x.2 := by
  induction cs with
  | nil => cases h
  | cons c cs ih =>
    rw [getC] at h
    split at h
    · rename_i hm; cases h; exact ⟨c, by simp, hm, rfl, rfl⟩
    · obtain ⟨d, h1, h2⟩ := ih h; exact ⟨d, by simp [h1], h2⟩
theorem getC_of {cs : List Cho} {c : Cho} (h : Rise cs) (hc : c ∈ cs) : getC cs c.move = some (c.games, c.score) := by
  induction cs with
  | nil => simp at hc
  | cons x cs ih =>
    obtain ⟨h1, h2⟩ := List.pairwise_cons.1 h
    rcases List.mem_cons.1 hc with rfl | hc
    · exact getC_head
    · have := h1 c hc
      rw [getC, if_neg (by omega), ih h2 hc]
theorem sumC_bd : ∀ {l : List Cho} {m : Int} {x : Int × Int}, (∀ c ∈ l, c.games = 1 ∧ 0 ≤ c.score ∧ c.score ≤ 2) → sumC l m = some x → 1 ≤ x.1 ∧ 0 ≤ x.2 ∧ x.2 ≤ 2 * x.1
  | [], m, x, _, h => by cases h
  | c :: l, m, x, hl, h => by
    have hc := hl c (by simp)
    have ih := fun y => sumC_bd (l := l) (m := m) (x := y) (fun d hd => hl d (by simp [hd]))
    rw [sumC] at h
    by_cases hm : c.move = m
    · rw [if_pos hm] at h
      cases hs : sumC l m with
      | none => rw [hs, oadd_none] at h; cases h; simp only; omega
      | some y =>
        rw [hs] at h
        have := ih y hs
        simp only [oadd, Option.some.injEq] at h
        subst h; simp only; omega
    · rw [if_neg hm] at h
      exact ih x h
theorem can_look {es : List Ent} {x : Ent} (h : Can es) (hx : x ∈ es) : lookE es x.pits = x.choices := by
  induction es with
  | nil => simp at hx
  | cons e es ih =>
    rcases List.mem_cons.1 hx with rfl | hx
    · exact lookE_head
    · have := (List.pairwise_cons.1 h.so).1 x hx
      rw [lookE, if_neg (fun q => by rw [q] at this; exact cmpL_irr this), ih h.tail hx]
theorem addEs_len : ∀ (l : List (List Int × Cho)) (es : List Ent), (addEs es l).length ≤ es.length + l.length
  | [], es => Nat.le_refl _
  | x :: l, es => by
    have h1 := addEs_len l (addE es x.1 x.2)
    have h2 := addE_len es x.1 x.2
    show (addEs (addE es x.1 x.2) l).length ≤ _
    rw [List.length_cons]; omega
theorem look_mem {es : List Ent} {p : List Int} (h : lookE es p ≠ []) : ∃ x ∈ es, x.pits = p ∧ lookE es p = x.choices := by
  induction es with
  | nil => exact absurd rfl h
  | cons e es ih =>
    rw [lookE] at h ⊢
    split at h
    · rename_i he; rw [if_pos he]; exact ⟨e, by simp, he, rfl⟩
    · rename_i he; rw [if_neg he]
      obtain ⟨x, h1, h2⟩ := ih h
      exact ⟨x, by simp [h1], h2⟩
theorem part_ok {r : Rul} {es : List Ent} {l : List (List Int × Cho)} (hc : Can es) (hn : ∀ x ∈ es, ∀ c ∈ x.choices, 0 ≤ c.games) (hl : ∀ x ∈ l, x.2.games = 1 ∧ 0 ≤ x.2.score ∧ x.2.score ≤ 2) (h20 : l.length ≤ 20) (h : okB ⟨r, addEs es l⟩ = true) : okB ⟨r, addEs [] l⟩ = true := by
  have h0 := Can.adds l Can.nil
  have hX := Can.adds l hc
  have hlen := addEs_len l []
  refine okB_of (okB_parts h).1 (by simp at hlen; omega) h0.so (fun x hx => ?_)
  have e1 := can_look h0 hx
  have e2 := lookE_adds l x.pits Can.nil
  rw [e1] at e2
  have e3 := lookE_adds l x.pits hc
  have hx0 := (h0.ri x hx)
  have hr0 : Rise ([] : List Cho) := List.Pairwise.nil
  have hre := can_rise hc x.pits
  have hp : ∀ c ∈ ofP l x.pits, c.games = 1 ∧ 0 ≤ c.score ∧ c.score ≤ 2 := fun c hc => by
    unfold ofP at hc
    obtain ⟨y, hy, rfl⟩ := List.mem_map.1 hc
    exact hl y (List.mem_filter.1 hy).1
  -- the choice of the whole book
  have key : ∀ c ∈ x.choices, ∃ d ∈ lookE (addEs es l) x.pits, d.move = c.move ∧ c.games ≤ d.games ∧ 1 ≤ c.games ∧ 0 ≤ c.score ∧ c.score ≤ 2 * c.games := fun c hcm => by
    have g1 := getC_of hx0.1 hcm
    rw [e2, show lookE [] x.pits = [] from rfl, getC_adds _ _ hr0] at g1
    have g1 : sumC (ofP l x.pits) c.move = some (c.games, c.score) := g1
    have hb := sumC_bd hp g1
    have g2 := getC_adds (ofP l x.pits) c.move hre
    rw [g1, ← e3] at g2
    cases hq : getC (lookE es x.pits) c.move with
    | none =>
      rw [hq] at g2
      obtain ⟨d, d1, d2, d3, d4⟩ := getC_mem (x := (c.games, c.score)) g2
      exact ⟨d, d1, d2, by rw [d3]; exact Int.le_refl _, hb.1, hb.2.1, hb.2.2⟩
    | some y =>
      rw [hq] at g2
      obtain ⟨d, d1, d2, d3, d4⟩ := getC_mem (x := (y.1 + c.games, y.2 + c.score)) g2
      obtain ⟨d', q1, q2, q3, q4⟩ := getC_mem hq
      have hn0 : 0 ≤ d'.games := by
        obtain ⟨z, hz, _, e5⟩ := look_mem (es := es) (p := x.pits) (fun e => by rw [e] at q1; simp at q1)
        rw [e5] at q1
        exact hn z hz d' q1
      exact ⟨d, d1, d2, by simp only at d3; omega, hb.1, hb.2.1, hb.2.2⟩
  obtain ⟨c0, hc0⟩ := List.exists_mem_of_ne_nil _ hx0.2
  have hne : lookE (addEs es l) x.pits ≠ [] := fun e => by
    obtain ⟨d, hd, _⟩ := key c0 hc0
    rw [e] at hd; simp at hd
  obtain ⟨y, hy, hyp, hyc⟩ := look_mem hne
  have hg := okB_good h y hy
  refine ⟨by rw [← hyp]; exact hg.po, hx0.2, hx0.1, fun c hcm => ?_⟩
  obtain ⟨d, d1, d2, d3, d4, d5, d6⟩ := key c hcm
  rw [hyc] at d1
  have hd := hg.ch d d1
  exact ⟨by rw [← d2, ← hyp]; exact hd.lg, d4, by have := hd.g2; omega, d5, d6⟩
def sumG (cs : List Cho) : Int := isum (cs.map (·.games))
def totG (es : List Ent) : Int := isum (es.map fun e => sumG e.choices)
theorem sumG_add : ∀ (cs : List Cho) (c : Cho), sumG (addC cs c) = sumG cs + c.games
  | [], c => by rw [addC_nil]; simp [sumG]
  | x :: cs, c => by
    rw [addC_cons]
    split
    · split
      · simp [sumG]; omega
      · simp [sumG]; omega
    · have := sumG_add cs c
      simp [sumG] at this ⊢; omega
theorem totG_add : ∀ (es : List Ent) (p : List Int) (c : Cho), totG (addE es p c) = totG es + c.games
  | [], p, c => by rw [addE_nil]; simp [totG, sumG]
  | e :: es, p, c => by
    rw [addE_cons]
    split
    · split
      · have := sumG_add e.choices c
        simp [totG] at this ⊢; omega
      · simp [totG, sumG]; omega
    · have := totG_add es p c
      simp [totG] at this ⊢; omega
theorem totG_adds : ∀ (l : List (List Int × Cho)) (es : List Ent), (∀ x ∈ l, x.2.games = 1) → totG (addEs es l) = totG es + l.length
  | [], es, _ => by simp [addEs]
  | x :: l, es, h => by
    show totG (addEs (addE es x.1 x.2) l) = _
    rw [totG_adds l _ (fun y hy => h y (by simp [hy])), totG_add, h x (by simp), List.length_cons]; omega
theorem isum_take_bd {l : List Int} (h : nn l) (k : Nat) : 0 ≤ isum (l.take k) ∧ isum (l.take k) ≤ isum l := by
  have h1 : nn (l.take k) := fun x hx => h x (List.mem_of_mem_take hx)
  have h2 : nn (l.drop k) := fun x hx => h x (List.mem_of_mem_drop hx)
  have a := nn_isum h1
  have b := nn_isum h2
  have e : isum l = isum (l.take k) + isum (l.drop k) := by rw [← isum_append, List.take_append_drop]
  omega
theorem totG_step {es : List Ent} {i : Nat} (h : i < es.length) : totG (es.take (i + 1)) = totG (es.take i) + sumG (ent es i).choices := by
  unfold totG; rw [List.take_add_one, ent_get h]; simp
theorem sumG_step {cs : List Cho} {k : Nat} (h : k < cs.length) : sumG (cs.take (k + 1)) = sumG (cs.take k) + (cho cs k).games := by
  unfold sumG; rw [List.take_add_one, cho_get h]; simp
theorem sumG_nn {cs : List Cho} (h : ∀ c ∈ cs, 0 ≤ c.games) : nn (cs.map (·.games)) := fun x hx => by
  obtain ⟨c, hc, rfl⟩ := List.mem_map.1 hx
  exact h c hc
theorem totG_nn {es : List Ent} (h : ∀ x ∈ es, ∀ c ∈ x.choices, 0 ≤ c.games) : nn (es.map fun e => sumG e.choices) := fun x hx => by
  obtain ⟨e, he, rfl⟩ := List.mem_map.1 hx
  exact nn_isum (sumG_nn (h e he))
theorem totG_bd {es : List Ent} (h : ∀ x ∈ es, ∀ c ∈ x.choices, 0 ≤ c.games) (i : Nat) : 0 ≤ totG (es.take i) ∧ totG (es.take i) ≤ totG es := by
  have := isum_take_bd (totG_nn h) i
  unfold totG; rw [List.map_take]; exact this
theorem sumG_bd {cs : List Cho} (h : ∀ c ∈ cs, 0 ≤ c.games) (k : Nat) : 0 ≤ sumG (cs.take k) ∧ sumG (cs.take k) ≤ sumG cs := by
  have := isum_take_bd (sumG_nn h) k
  unfold sumG; rw [List.map_take]; exact this
structure Gamed (b : Boo) (g : Gam) : Prop where
  emp : newB g.rules = (⟨g.rules, []⟩, 0)
  own : addGame ⟨g.rules, []⟩ g = (⟨g.rules, gmE g [] (gmL g)⟩, 0)
  both : merge b ⟨g.rules, gmE g [] (gmL g)⟩ = ((addGame b g).1, 0)
  tot : totG (gmE g [] (gmL g)) = if (g.moves.length : Int) < 20 then (g.moves.length : Int) else 20
  nn : ∀ x ∈ gmE g [] (gmL g), ∀ c ∈ x.choices, 0 ≤ c.games
  sz : (gmE g [] (gmL g)).length + totE (gmE g [] (gmL g)) ≤ 20000
theorem gamed {b : Boo} {g : Gam} (h : (addGame b g).2 = 0) : Gamed b g := by
  by_cases h1 : okB b = true ∧ okG g = true
  case neg => rw [addGame_1 h1] at h; simp at h
  by_cases h2 : endC g = 0 ∧ g.rules = b.rules
  case neg => rw [addGame_6 h1 h2] at h; simp at h
  by_cases h3 : okB (gamB b g) = true
  case neg => rw [addGame_5 h1 h2 h3] at h; simp at h
  have e := addGame_0 h1 h2 h3
  have hr : okR g.rules = true := by rw [h2.2]; exact (okB_parts h1.1).1
  have hl := gmL_len g
  have hal : (adG g).length = (gmL g).length := by unfold adG; rw [List.length_map]
  have hn : ∀ x ∈ b.entries, ∀ c ∈ x.choices, 0 ≤ c.games := fun x hx c hc => by have := ((okB_good h1.1 x hx).ch c hc).g1; omega
  have h4 : okB ⟨b.rules, addEs b.entries (adG g)⟩ = true := by rw [← gmE_adds]; exact h3
  have h5 := part_ok (okB_can h1.1) hn (adG_one g) (by omega) h4
  rw [← gmE_adds, ← h2.2] at h5
  have h6 : okB ⟨g.rules, []⟩ = true := okB_of hr (by simp) List.Pairwise.nil (fun x hx => by simp at hx)
  obtain ⟨k1, k2, k3, k4, k5, k6, k7, k8, k9⟩ := okG_parts h1.2
  have hln : (gmL g).length = min 20 g.moves.length := by
    unfold gmL; rw [List.length_take, List.length_zip, k6, hist_length, k8]; omega
  have hg := okB_good h5
  refine ⟨newB_0 hr, addGame_0 (b := ⟨g.rules, []⟩) ⟨h6, h1.2⟩ ⟨h2.1, rfl⟩ h5, ?_, ?_, ?_, ?_⟩
  · have e9 : mrgB b ⟨g.rules, gmE g [] (gmL g)⟩ = gamB b g := by
      unfold mrgB gamB; rw [gam_merge h1.1 g]
    rw [e, merge_0 ⟨h1.1, h5⟩ h2.2.symm (by rw [e9]; exact h3), e9]
  · rw [gmE_adds, totG_adds _ _ (fun x hx => (adG_one g x hx).1), hal, hln]
    simp only [totG, List.map_nil, isum_nil]
    split <;> omega
  · exact fun x hx c hc => by have := ((hg x hx).ch c hc).g1; omega
  · have h7 := okB_sum h5
    have h8 := cntE_gm g (gmL g) []
    have h9 : totE (gmE g [] (gmL g)) = sumP (gmE g [] (gmL g)) + cntE (gmE g [] (gmL g)) := totE_sum _
    simp only [cntE] at h8
    simp only at h7
    omega
end Go.Proofs.YtcmfnlleikcpnaaGreat.M

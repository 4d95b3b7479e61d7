/- The plain laws of sowing games, over lists of numbers: no program in sight. -/
set_option linter.unusedSimpArgs false
set_option linter.unusedVariables false
namespace Go.Proofs.Ytejnmechnhgmfaa.M
structure Rul where
  pits : Int
  seeds : Int
  stores : Bool
  skip : Bool
  relay : Bool
  feed : Bool
  again : Bool
  capture : Int
  slam : Int
  deriving DecidableEq
structure Pos where
  pits : List Int
  stores : List Int
  player : Int
  deriving DecidableEq
structure Sw where
  pits : List Int
  stores : List Int
  last : Int
  laps : Int
  deriving DecidableEq
structure Res where
  move : Int
  gain : Int
  again : Bool
  next : Pos
  deriving DecidableEq
structure Gam where
  rules : Rul
  start : Pos
  moves : List Int
  now : Pos
  resigned : Int
  deriving DecidableEq
structure Sow where
  rules : Rul
  player : Int
  sown : Sw
  path : List Int
  deriving DecidableEq
def Rul.zero : Rul := ⟨0, 0, false, false, false, false, false, 0, 0⟩
def Pos.zero : Pos := ⟨[], [], 0⟩
def Sw.zero : Sw := ⟨[], [], 0, 0⟩
def Res.zero : Res := ⟨0, 0, false, Pos.zero⟩
def Gam.zero : Gam := ⟨Rul.zero, Pos.zero, [], Pos.zero, 0⟩
def betw (n lo hi : Int) : Bool := decide (lo ≤ n) && decide (n ≤ hi)
theorem betw_iff {n lo hi : Int} : betw n lo hi = true ↔ lo ≤ n ∧ n ≤ hi := by simp [betw]
def isPl (n : Int) : Bool := decide (n = 0) || decide (n = 1)
def okR (r : Rul) : Bool := betw r.pits 2 8 && betw r.seeds 1 6 && betw r.capture 0 3 && betw r.slam 0 2 && (r.stores || !r.again)
theorem okR_bd {r : Rul} (h : okR r = true) : 2 ≤ r.pits ∧ r.pits ≤ 8 ∧ 1 ≤ r.seeds ∧ r.seeds ≤ 6 := by
  simp only [okR, Bool.and_eq_true, betw_iff] at h; omega
def nth (l : List Int) (k : Nat) : Int := l.getD k 0
theorem drop_nth {l : List Int} {k : Nat} (h : k < l.length) : l.drop k = nth l k :: l.drop (k + 1) := by
  rw [List.drop_eq_getElem_cons h]; simp [nth, List.getD, h]
theorem nth_eq {l : List Int} {k : Nat} (h : k < l.length) : nth l k = l[k] := by simp [nth, List.getD, h]
theorem nth_mem {l : List Int} {k : Nat} (h : k < l.length) : nth l k ∈ l := by rw [nth_eq h]; exact List.getElem_mem h
theorem take_nth {l : List Int} {k : Nat} (h : k < l.length) : l.take (k + 1) = l.take k ++ [nth l k] := by
  rw [List.take_succ_eq_append_getElem h, nth_eq h]
def Upto (a b : List Int) (k : Nat) : Prop := a.take k = b.take k
theorem Upto.zero (a b : List Int) : Upto a b 0 := rfl
theorem Upto.step {a b : List Int} {k : Nat} (h : Upto a b k) (ha : k < a.length) (hb : k < b.length) (e : nth a k = nth b k) : Upto a b (k + 1) := by
  unfold Upto at *; rw [take_nth ha, take_nth hb, h, e]
theorem Upto.done {a b : List Int} {k : Nat} (h : Upto a b k) (ha : a.length ≤ k) (hb : b.length ≤ k) : a = b := by
  unfold Upto at h; rwa [List.take_of_length_le ha, List.take_of_length_le hb] at h
theorem ne_of_nth {a b : List Int} {k : Nat} (e : nth a k ≠ nth b k) : a ≠ b := by rintro rfl; exact e rfl
def isum : List Int → Int
  | [] => 0
  | x :: r => x + isum r
@[simp] theorem isum_nil : isum [] = 0 := rfl
@[simp] theorem isum_cons (x : Int) (r : List Int) : isum (x :: r) = x + isum r := rfl
@[simp] theorem isum_append (a b : List Int) : isum (a ++ b) = isum a + isum b := by
  induction a with
  | nil => simp
  | cons x r ih => simp [ih]; omega
def sumFrom (s : Int) : List Int → Option Int
  | [] => some s
  | x :: r => if betw x 0 96 then sumFrom (s + x) r else none
theorem sumFrom_eq (s : Int) (l : List Int) : sumFrom s l = if l.all (betw · 0 96) then some (s + isum l) else none := by
  induction l generalizing s with
  | nil => simp [sumFrom]
  | cons x r ih =>
    simp only [sumFrom, ih, List.all_cons, isum_cons]
    by_cases h : betw x 0 96 = true <;> simp [h, Int.add_assoc]
theorem sumFrom_step {s : Int} {l : List Int} {k : Nat} (h : k < l.length) : sumFrom s (l.drop k) = if betw (nth l k) 0 96 then sumFrom (s + nth l k) (l.drop (k + 1)) else none := by
  rw [drop_nth h, sumFrom]
theorem sumFrom_end {s : Int} {l : List Int} {k : Nat} (h : ¬ k < l.length) : sumFrom s (l.drop k) = some s := by
  rw [List.drop_of_length_le (by omega), sumFrom]
def allOk (l : List Int) : Bool := l.all (betw · 0 96)
theorem sumFrom_some {l : List Int} {t : Int} (h : sumFrom 0 l = some t) : allOk l = true ∧ isum l = t := by
  rw [sumFrom_eq] at h; unfold allOk; split at h <;> simp_all
theorem sumFrom_none {l : List Int} (h : sumFrom 0 l = none) : allOk l = false := by
  rw [sumFrom_eq] at h; unfold allOk; split at h <;> simp_all
def okP (r : Rul) (p : Pos) : Bool :=
  okR r && decide ((p.pits.length : Int) = 2 * r.pits) && decide (p.stores.length = 2) && (decide (p.player = 0) || decide (p.player = 1)) &&
  allOk p.pits && allOk p.stores && decide (isum p.pits + isum p.stores ≤ 96)
theorem mul_bd {a n : Int} (hp : a = 0 ∨ a = 1) (h2 : 2 ≤ n) (h8 : n ≤ 8) : 0 ≤ a ∧ a ≤ 1 ∧ 0 ≤ a * n ∧ a * n ≤ n ∧ n ≤ (a + 1) * n ∧ (a + 1) * n ≤ 2 * n ∧ (a + 1) * n = a * n + n := by
  rcases hp with rfl | rfl <;> simp <;> omega
def sameP (a b : Pos) : Bool := decide (a.player = b.player) && decide (a.pits = b.pits) && decide (a.stores = b.stores)
theorem sameP_eq (a b : Pos) : sameP a b = decide (a = b) := by
  obtain ⟨a1, a2, a3⟩ := a
  obtain ⟨b1, b2, b3⟩ := b
  rw [Bool.eq_iff_iff]
  simp [sameP]
  constructor
  · rintro ⟨⟨h1, h2⟩, h3⟩; exact ⟨h2, h3, h1⟩
  · rintro ⟨h2, h3, h1⟩; exact ⟨⟨h1, h2⟩, h3⟩
def getI (l : List Int) (i : Int) : Int := nth l i.toNat
def setI (l : List Int) (i v : Int) : List Int := l.set i.toNat v
@[simp] theorem setI_length (l : List Int) (i v : Int) : (setI l i v).length = l.length := by simp [setI]
def after (r : Rul) (player place : Int) : Int :=
  if place = (player + 1) * r.pits - 1 ∧ r.stores = true then -1
  else if place = -1 then ((player + 1) * r.pits) % (2 * r.pits)
  else (place + 1) % (2 * r.pits)
def nxt (r : Rul) (player frm place : Int) : Int :=
  if r.skip = true ∧ after r player place = frm then after r player frm else after r player place
def sow (r : Rul) (player frm : Int) : Nat → Int → List Int → List Int → List Int → Int × List Int × List Int × List Int
  | 0, place, ps, ss, path => (place, ps, ss, path)
  | n + 1, place, ps, ss, path =>
    if nxt r player frm place < 0 then sow r player frm n (nxt r player frm place) ps (setI ss player (getI ss player + 1)) (path ++ [nxt r player frm place])
    else sow r player frm n (nxt r player frm place) (setI ps (nxt r player frm place) (getI ps (nxt r player frm place) + 1)) ss (path ++ [nxt r player frm place])
def lap (r : Rul) (player frm : Int) (s : Sw) (path : List Int) : Sw × List Int :=
  (⟨(sow r player frm (getI s.pits frm).toNat frm (setI s.pits frm 0) s.stores path).2.1,
    (sow r player frm (getI s.pits frm).toNat frm (setI s.pits frm 0) s.stores path).2.2.1,
    (sow r player frm (getI s.pits frm).toNat frm (setI s.pits frm 0) s.stores path).1, s.laps + 1⟩,
   (sow r player frm (getI s.pits frm).toNat frm (setI s.pits frm 0) s.stores path).2.2.2)
def more (r : Rul) (s : Sw) : Bool := r.relay && decide (0 ≤ s.last) && decide (1 < getI s.pits s.last)
def mv (r : Rul) (player : Int) : Nat → Int → Sw → List Int → Option (Sw × List Int)
  | 0, _, _, _ => none
  | n + 1, frm, s, path =>
    if more r (lap r player frm s path).1 = true then mv r player n (lap r player frm s path).1.last (lap r player frm s path).1 (lap r player frm s path).2
    else some (lap r player frm s path)
def sowCode (r : Rul) (p : Pos) (move : Int) : Int :=
  if okP r p = false then 1 else if betw move 0 (r.pits - 1) = false then 2 else if getI p.pits (p.player * r.pits + move) = 0 then 6 else 0
def sowMove (r : Rul) (p : Pos) (move : Int) : Int × Sw × List Int :=
  if sowCode r p move ≠ 0 then (sowCode r p move, Sw.zero, [])
  else match mv r p.player 100 (p.player * r.pits + move) ⟨p.pits, p.stores, 0, 0⟩ [] with
    | none => (10, Sw.zero, [])
    | some x => (0, x.1, x.2)
def side (r : Rul) (pits : List Int) (player : Int) : Int := isum ((pits.drop (player * r.pits).toNat).take r.pits.toNat)
def owner (r : Rul) (pit : Int) : Int := pit / r.pits
def opp (r : Rul) (pit : Int) : Int := 2 * r.pits - 1 - pit
def ttOk (r : Rul) (player : Int) (ps : List Int) (k : Nat) : Bool := !decide (owner r k = player) && betw (getI ps k) 2 3
def tt (r : Rul) (player : Int) (ps : List Int) : Nat → List Int
  | 0 => if ttOk r player ps 0 then [0] else []
  | k + 1 => if ttOk r player ps (k + 1) then ((k + 1 : Nat) : Int) :: tt r player ps k else []
def taken (r : Rul) (s : Sw) (player : Int) : List Int :=
  if s.last < 0 then []
  else if r.capture = 1 then tt r player s.pits s.last.toNat
  else if r.capture = 2 then (if owner r s.last = player ∧ getI s.pits s.last = 1 ∧ 0 < getI s.pits (opp r s.last) then [s.last, opp r s.last] else [])
  else if r.capture = 3 then (if owner r s.last ≠ player ∧ getI s.pits s.last % 2 = 0 then [s.last] else [])
  else []
def gone (r : Rul) (s : Sw) (player : Int) (l : List Int) : Int := isum ((l.filter fun k => !decide (owner r k = player)).map (getI s.pits))
def slams (r : Rul) (s : Sw) (player : Int) : Bool :=
  decide (0 < gone r s player (taken r s player)) && decide (side r s.pits (1 - player) = gone r s player (taken r s player))
def captured (r : Rul) (s : Sw) (player : Int) : List Int := if r.slam = 2 ∧ slams r s player = true then [] else taken r s player
def zeros (l : List Int) (ps : List Int) : List Int := l.foldl (fun ps k => setI ps k 0) ps
def take (r : Rul) (s : Sw) (player : Int) : Sw :=
  ⟨zeros (captured r s player) s.pits, setI s.stores player (getI s.stores player + isum ((captured r s player).map (getI s.pits))), s.last, s.laps⟩
def mustFeed (r : Rul) (p : Pos) : Bool := r.feed && decide (side r p.pits (1 - p.player) = 0)
def done (r : Rul) (p : Pos) (move : Int) : Sw × Int :=
  if (sowMove r p move).1 ≠ 0 then (Sw.zero, (sowMove r p move).1)
  else if (decide (r.slam = 1) && slams r (sowMove r p move).2.1 p.player) || (mustFeed r p && decide (side r (take r (sowMove r p move).2.1 p.player).pits (1 - p.player) = 0)) then (Sw.zero, 9)
  else (take r (sowMove r p move).2.1 p.player, 0)
def resOf (r : Rul) (p : Pos) (move : Int) (t : Sw) : Res :=
  ⟨move, getI t.stores p.player - getI p.stores p.player, r.again && decide (t.last = -1),
    ⟨t.pits, t.stores, if (r.again && decide (t.last = -1)) = true then p.player else 1 - p.player⟩⟩
def make (r : Rul) (p : Pos) (move : Int) : Res × Int :=
  if (done r p move).2 ≠ 0 then (Res.zero, (done r p move).2) else (resOf r p move (done r p move).1, 0)
def resultsTo (r : Rul) (p : Pos) : Nat → List Res
  | 0 => []
  | n + 1 => resultsTo r p n ++ (if (make r p n).2 = 0 then [(make r p n).1] else [])
def results (r : Rul) (p : Pos) : List Res := resultsTo r p r.pits.toNat
def runs (r : Rul) : Pos → List Int → List Res
  | _, [] => []
  | p, m :: ms => if (make r p m).2 = 0 then (make r p m).1 :: runs r (make r p m).1.next ms else []
def hist (p : Pos) (l : List Res) : List Pos := p :: l.map (·.next)
def lastPos (p : Pos) : List Res → Pos
  | [] => p
  | x :: l => lastPos x.next l
def okG (g : Gam) : Bool :=
  okP g.rules g.start && decide (g.moves.length ≤ 120) && betw g.resigned (-1) 1 &&
  decide ((runs g.rules g.start g.moves).length = g.moves.length) && decide (lastPos g.start (runs g.rules g.start g.moves) = g.now)
def play (g : Gam) (move : Int) : Gam × Int :=
  if 0 ≤ g.resigned then (Gam.zero, 6)
  else if g.moves.length = 120 then (Gam.zero, 5)
  else if (make g.rules g.now move).2 ≠ 0 then (Gam.zero, (make g.rules g.now move).2)
  else (⟨g.rules, g.start, g.moves ++ [move], (make g.rules g.now move).1.next, g.resigned⟩, 0)
theorem allOk_drop {l : List Int} (n : Nat) (h : allOk l = true) : allOk (l.drop n) = true := by
  unfold allOk at *; rw [List.all_eq_true] at *; exact fun x hx => h x (List.mem_of_mem_drop hx)
theorem allOk_take {l : List Int} (n : Nat) (h : allOk l = true) : allOk (l.take n) = true := by
  unfold allOk at *; rw [List.all_eq_true] at *; exact fun x hx => h x (List.mem_of_mem_take hx)
theorem allOk_nth {l : List Int} (h : allOk l = true) (k : Nat) : 0 ≤ nth l k ∧ nth l k ≤ 96 := by
  unfold allOk at h; rw [List.all_eq_true] at h
  by_cases hk : k < l.length
  · exact betw_iff.1 (h _ (nth_mem hk))
  · simp [nth, List.getD, List.getElem?_eq_none (Nat.le_of_not_lt hk)]
theorem isum_bd {l : List Int} (h : allOk l = true) : 0 ≤ isum l ∧ isum l ≤ 96 * l.length := by
  induction l with
  | nil => simp
  | cons x r ih =>
    unfold allOk at h ih
    rw [List.all_cons, Bool.and_eq_true, betw_iff] at h
    have := ih h.2
    simp; omega
def sumV (l : List Int) : Int := if allOk l then isum l else 0
theorem sumV_ok {l : List Int} (h : allOk l = true) : sumV l = isum l := by simp [sumV, h]
theorem sumV_bd (l : List Int) : 0 ≤ sumV l ∧ sumV l ≤ 96 * l.length := by
  unfold sumV; split
  · exact isum_bd ‹_›
  · omega
def sum4 (l : List Int) : Int := if allOk l = true ∧ isum l ≤ 96 then isum l else -1
theorem sum4_bd (l : List Int) : -1 ≤ sum4 l ∧ sum4 l ≤ 96 := by
  unfold sum4; split
  · rename_i h; have := isum_bd h.1; omega
  · omega
theorem okP_sum4 {r : Rul} {p : Pos} (h1 : okR r = true) (h2 : (p.pits.length : Int) = 2 * r.pits) (h3 : p.stores.length = 2) (h4 : p.player = 0 ∨ p.player = 1) :
    okP r p = (decide (0 ≤ sum4 p.pits) && decide (0 ≤ sum4 p.stores) && decide (sum4 p.pits + sum4 p.stores ≤ 96)) := by
  have h5 : (decide (p.player = 0) || decide (p.player = 1)) = true := by simpa using h4
  unfold okP sum4
  rw [h1, h5]
  cases o1 : allOk p.pits <;> cases o2 : allOk p.stores <;> simp [h2, h3]
  · have b1 := isum_bd o1
    have b2 := isum_bd o2
    by_cases g1 : isum p.pits ≤ 96 <;> by_cases g2 : isum p.stores ≤ 96 <;> simp [g1, g2] <;> omega
theorem okP_bd {r : Rul} {p : Pos} (h : okP r p = true) : 2 ≤ r.pits ∧ r.pits ≤ 8 ∧ (p.pits.length : Int) = 2 * r.pits ∧ p.stores.length = 2 ∧ allOk p.pits = true ∧ allOk p.stores = true ∧ (p.player = 0 ∨ p.player = 1) := by
  unfold okP at h
  simp only [Bool.and_eq_true, decide_eq_true_eq, Bool.or_eq_true] at h
  have := okR_bd h.1.1.1.1.1.1
  exact ⟨by omega, by omega, h.1.1.1.1.1.2, h.1.1.1.1.2, h.1.1.2, h.1.2, h.1.1.1.2⟩
theorem okP_sum {r : Rul} {p : Pos} (h : okP r p = true) : isum p.pits + isum p.stores ≤ 96 := by
  unfold okP at h
  simp only [Bool.and_eq_true, decide_eq_true_eq, Bool.or_eq_true] at h
  exact h.2
theorem okP_okR {r : Rul} {p : Pos} (h : okP r p = true) : okR r = true := by
  unfold okP at h
  simp only [Bool.and_eq_true] at h
  exact h.1.1.1.1.1.1
theorem okP_sum_ {r : Rul} {p : Pos} (h : ((okR r = true ∧ (p.pits.length : Int) = 2 * r.pits) ∧ (p.stores.length : Int) = 2) ∧ isPl p.player = true) :
    (allOk p.pits && allOk p.stores && decide (sumV p.pits + sumV p.stores ≤ 96)) = okP r p := by
  obtain ⟨⟨⟨h1, h2⟩, h3⟩, h4⟩ := h
  have h5 : p.stores.length = 2 := by omega
  have h6 : (decide (p.player = 0) || decide (p.player = 1)) = true := h4
  unfold okP
  rw [h1, h6]
  cases o1 : allOk p.pits <;> cases o2 : allOk p.stores <;> simp [h2, h5, sumV, o1, o2]
def nn (l : List Int) : Prop := ∀ x ∈ l, 0 ≤ x
theorem nn_of_ok {l : List Int} (h : allOk l = true) : nn l := by
  unfold allOk at h; rw [List.all_eq_true] at h
  exact fun x hx => (betw_iff.1 (h x hx)).1
theorem nn_nth {l : List Int} (h : nn l) (k : Nat) : 0 ≤ nth l k := by
  by_cases hk : k < l.length
  · exact h _ (nth_mem hk)
  · simp [nth, List.getD, List.getElem?_eq_none (Nat.le_of_not_lt hk)]
theorem nn_isum {l : List Int} (h : nn l) : 0 ≤ isum l := by
  induction l with
  | nil => simp
  | cons x r ih =>
    have := h x (by simp)
    have := ih (fun y hy => h y (by simp [hy]))
    simp; omega
theorem nth_le_isum {l : List Int} (h : nn l) (k : Nat) : nth l k ≤ isum l := by
  by_cases hk : k < l.length
  · induction l generalizing k with
    | nil => simp at hk
    | cons x r ih =>
      have hr : nn r := fun y hy => h y (by simp [hy])
      cases k with
      | zero => have := nn_isum hr; simp [nth]; omega
      | succ k => have := ih hr k (by simpa using hk); have := h x (by simp); simp [nth] at *; omega
  · have := nn_isum h
    simp [nth, List.getD, List.getElem?_eq_none (Nat.le_of_not_lt hk)]; omega
theorem nn_set {l : List Int} (h : nn l) (k : Nat) {v : Int} (hv : 0 ≤ v) : nn (l.set k v) := fun x hx => by
  rcases List.mem_or_eq_of_mem_set hx with hx | rfl
  · exact h x hx
  · exact hv
theorem isum_set {l : List Int} {k : Nat} (hk : k < l.length) (v : Int) : isum (l.set k v) = isum l - nth l k + v := by
  induction l generalizing k with
  | nil => simp at hk
  | cons x r ih =>
    cases k with
    | zero => simp [nth]; omega
    | succ k => have := ih (k := k) (by simpa using hk); simp [nth] at *; omega
theorem nn_setI {l : List Int} (h : nn l) (k : Int) {v : Int} (hv : 0 ≤ v) : nn (setI l k v) := nn_set h _ hv
theorem isum_setI {l : List Int} {k : Int} (h0 : 0 ≤ k) (hk : k < l.length) (v : Int) : isum (setI l k v) = isum l - getI l k + v := isum_set (by omega) v
theorem getI_setI_same {l : List Int} {k : Int} (h0 : 0 ≤ k) (hk : k < l.length) (v : Int) : getI (setI l k v) k = v := by
  have : k.toNat < l.length := by omega
  simp [getI, setI, nth, List.getD, this]
structure Good (r : Rul) (ps ss : List Int) (n : Int) : Prop where
  lp : (ps.length : Int) = 2 * r.pits
  ls : ss.length = 2
  np : nn ps
  ns : nn ss
  n0 : 0 ≤ n
  all : isum ps + isum ss + n ≤ 96
theorem Good.of_ok {r : Rul} {p : Pos} (h : okP r p = true) : Good r p.pits p.stores 0 := by
  obtain ⟨_, _, a, b, c, d, _⟩ := okP_bd h
  exact ⟨a, b, nn_of_ok c, nn_of_ok d, by omega, by have := okP_sum h; omega⟩
theorem Good.pit {r : Rul} {ps ss : List Int} {n : Int} (h : Good r ps ss n) (k : Int) : 0 ≤ getI ps k ∧ getI ps k ≤ 96 := by
  have a := nn_nth h.np k.toNat
  have b := nth_le_isum h.np k.toNat
  have c := nn_isum h.ns
  have d := h.all
  have e := h.n0
  unfold getI; omega
theorem Good.store {r : Rul} {ps ss : List Int} {n : Int} (h : Good r ps ss n) (k : Int) : 0 ≤ getI ss k ∧ getI ss k ≤ 96 := by
  have a := nn_nth h.ns k.toNat
  have b := nth_le_isum h.ns k.toNat
  have c := nn_isum h.np
  have d := h.all
  have e := h.n0
  unfold getI; omega
theorem Good.takeUp {r : Rul} {ps ss : List Int} (h : Good r ps ss 0) {k : Int} (k0 : 0 ≤ k) (k1 : k < 2 * r.pits) : Good r (setI ps k 0) ss (getI ps k) := by
  have hl := h.lp
  exact ⟨by simpa using h.lp, h.ls, nn_setI h.np k (by omega), h.ns, (h.pit k).1, by rw [isum_setI k0 (by omega)]; have := h.all; omega⟩
theorem Good.putPit {r : Rul} {ps ss : List Int} {n : Int} (h : Good r ps ss n) (hn : 0 < n) {k : Int} (k0 : 0 ≤ k) (k1 : k < 2 * r.pits) : Good r (setI ps k (getI ps k + 1)) ss (n - 1) := by
  have hl := h.lp
  have := (h.pit k).1
  exact ⟨by simpa using h.lp, h.ls, nn_setI h.np k (by omega), h.ns, by omega, by rw [isum_setI k0 (by omega)]; have := h.all; omega⟩
theorem Good.putStore {r : Rul} {ps ss : List Int} {n : Int} (h : Good r ps ss n) (hn : 0 < n) {k : Int} (k0 : 0 ≤ k) (k1 : k < 2) : Good r ps (setI ss k (getI ss k + 1)) (n - 1) := by
  have hl := h.ls
  have := (h.store k).1
  exact ⟨h.lp, by simpa using h.ls, h.np, nn_setI h.ns k (by omega), by omega, by rw [isum_setI k0 (by omega)]; have := h.all; omega⟩
theorem after_bd (r : Rul) {player n : Int} (hb : r.pits ≤ 8) (hc : 2 ≤ r.pits) (hp : player = 0 ∨ player = 1) (m0 : -1 ≤ n) : -1 ≤ after r player n ∧ after r player n < 2 * r.pits := by
  have a : ∀ x : Int, 0 ≤ x % (2 * r.pits) ∧ x % (2 * r.pits) < 2 * r.pits := fun x => ⟨Int.emod_nonneg _ (by omega), Int.emod_lt_of_pos _ (by omega)⟩
  unfold after
  split
  · omega
  · split
    · have := a ((player + 1) * r.pits); omega
    · have := a (n + 1); omega
theorem after_ne (r : Rul) {player n : Int} (hb : r.pits ≤ 8) (hc : 2 ≤ r.pits) (m0 : 0 ≤ n) (m1 : n < 2 * r.pits) : after r player n ≠ n := by
  unfold after
  split
  · omega
  · split
    · omega
    · intro h
      rcases Int.lt_or_le (n + 1) (2 * r.pits) with h1 | h1
      · rw [Int.emod_eq_of_lt (by omega) h1] at h; omega
      · have : n + 1 = 2 * r.pits := by omega
        rw [this, Int.emod_self] at h; omega
theorem nxt_bd (r : Rul) {player frm n : Int} (hb : r.pits ≤ 8) (hc : 2 ≤ r.pits) (hp : player = 0 ∨ player = 1) (m0 : -1 ≤ n) (f0 : 0 ≤ frm) : -1 ≤ nxt r player frm n ∧ nxt r player frm n < 2 * r.pits := by
  unfold nxt
  split
  · exact after_bd r hb hc hp (by omega)
  · exact after_bd r hb hc hp m0
theorem nxt_no {r : Rul} {player frm place : Int} (h : ¬(r.skip = true ∧ after r player place = frm)) : nxt r player frm place = after r player place := by
  unfold nxt; rw [if_neg h]
theorem nxt_yes {r : Rul} {player frm place : Int} (h : r.skip = true ∧ after r player place = frm) : nxt r player frm place = after r player frm := by
  unfold nxt; rw [if_pos h]
theorem sow_succ {r : Rul} {player frm place q : Int} {n : Nat} {ps ss path : List Int} (h : nxt r player frm place = q) :
    sow r player frm (n + 1) place ps ss path = if q < 0 then sow r player frm n q ps (setI ss player (getI ss player + 1)) (path ++ [q]) else sow r player frm n q (setI ps q (getI ps q + 1)) ss (path ++ [q]) := by
  subst h; rfl
theorem sow_keeps (r : Rul) {player frm : Int} (hb : r.pits ≤ 8) (hc : 2 ≤ r.pits) (hp : player = 0 ∨ player = 1) (f0 : 0 ≤ frm) : ∀ (n : Nat) (place : Int) (ps ss path : List Int),
    -1 ≤ place → place < 2 * r.pits → Good r ps ss n →
    Good r (sow r player frm n place ps ss path).2.1 (sow r player frm n place ps ss path).2.2.1 0 ∧ -1 ≤ (sow r player frm n place ps ss path).1 ∧ (sow r player frm n place ps ss path).1 < 2 * r.pits ∧
      (sow r player frm n place ps ss path).2.2.2.length = path.length + n ∧ isum (sow r player frm n place ps ss path).2.1 + isum (sow r player frm n place ps ss path).2.2.1 = isum ps + isum ss + n := by
  intro n
  induction n with
  | zero => intro place ps ss path h0 h1 hG; exact ⟨hG, h0, h1, rfl, by simp [sow]⟩
  | succ n ih =>
    intro place ps ss path h0 h1 hG
    have hq := nxt_bd r (frm := frm) hb hc hp h0 f0
    rw [sow_succ rfl]
    generalize nxt r player frm place = q at *
    have e : (((n + 1 : Nat) : Int) - 1) = n := by omega
    split
    · have g := hG.putStore (k := player) (by omega) (by omega) (by omega)
      rw [e] at g
      obtain ⟨a, b, c, d, f⟩ := ih q ps _ (path ++ [q]) hq.1 hq.2 g
      have hl := hG.ls
      refine ⟨a, b, c, by rw [d]; simp; omega, ?_⟩
      rw [f, isum_setI (by omega) (by omega)]; omega
    · have g := hG.putPit (k := q) (by omega) (by omega) hq.2
      rw [e] at g
      obtain ⟨a, b, c, d, f⟩ := ih q _ ss (path ++ [q]) hq.1 hq.2 g
      have hl := hG.lp
      refine ⟨a, b, c, by rw [d]; simp; omega, ?_⟩
      rw [f, isum_setI (by omega) (by omega)]; omega
theorem lap_keeps (r : Rul) {player frm : Int} {s : Sw} (path : List Int) (hb : r.pits ≤ 8) (hc : 2 ≤ r.pits) (hp : player = 0 ∨ player = 1) (f0 : 0 ≤ frm) (f1 : frm < 2 * r.pits) (hG : Good r s.pits s.stores 0) :
    Good r (lap r player frm s path).1.pits (lap r player frm s path).1.stores 0 ∧ -1 ≤ (lap r player frm s path).1.last ∧ (lap r player frm s path).1.last < 2 * r.pits ∧
      (lap r player frm s path).2.length ≤ path.length + 96 ∧ isum (lap r player frm s path).1.pits + isum (lap r player frm s path).1.stores = isum s.pits + isum s.stores ∧ (lap r player frm s path).1.laps = s.laps + 1 := by
  have g := hG.takeUp f0 f1
  have hv := hG.pit frm
  have e : ((getI s.pits frm).toNat : Int) = getI s.pits frm := Int.toNat_of_nonneg hv.1
  rw [← e] at g
  obtain ⟨a, b, c, d, f⟩ := sow_keeps r hb hc hp f0 _ frm _ _ path (by omega) f1 g
  have hl := hG.lp
  refine ⟨a, b, c, ?_, ?_, rfl⟩
  · show (sow _ _ _ _ _ _ _ _).2.2.2.length ≤ _
    rw [d]; omega
  · show isum (sow _ _ _ _ _ _ _ _).2.1 + isum (sow _ _ _ _ _ _ _ _).2.2.1 = _
    rw [f, isum_setI f0 (by omega), e]; omega
theorem more_last {r : Rul} {s : Sw} (h : more r s = true) : 0 ≤ s.last := by
  unfold more at h; simp at h; omega
theorem mv_keeps (r : Rul) {player : Int} (hb : r.pits ≤ 8) (hc : 2 ≤ r.pits) (hp : player = 0 ∨ player = 1) : ∀ (n : Nat) (frm : Int) (s : Sw) (path : List Int) (x : Sw × List Int),
    0 ≤ frm → frm < 2 * r.pits → Good r s.pits s.stores 0 → mv r player n frm s path = some x →
    Good r x.1.pits x.1.stores 0 ∧ -1 ≤ x.1.last ∧ x.1.last < 2 * r.pits ∧ x.2.length ≤ path.length + 96 * n ∧ isum x.1.pits + isum x.1.stores = isum s.pits + isum s.stores := by
  intro n
  induction n with
  | zero => intro frm s path x _ _ _ h; simp [mv] at h
  | succ n ih =>
    intro frm s path x f0 f1 hG h
    obtain ⟨a, b, c, d, f, _⟩ := lap_keeps r path hb hc hp f0 f1 hG
    rw [mv] at h
    split at h
    · rename_i hm
      obtain ⟨a', b', c', d', f'⟩ := ih _ _ _ _ (more_last hm) c a h
      exact ⟨a', b', c', by omega, by omega⟩
    · injection h with h
      subst h
      exact ⟨a, b, c, by omega, f⟩
def ttI (r : Rul) (player : Int) (ps : List Int) (k : Int) : List Int := if k < 0 then [] else tt r player ps k.toNat
theorem ttI_neg {r : Rul} {player : Int} {ps : List Int} {k : Int} (h : k < 0) : ttI r player ps k = [] := by simp [ttI, h]
theorem ttI_yes {r : Rul} {player : Int} {ps : List Int} {k : Int} (h0 : 0 ≤ k) (h1 : owner r k ≠ player) (h2 : betw (getI ps k) 2 3 = true) : ttI r player ps k = k :: ttI r player ps (k - 1) := by
  obtain ⟨n, rfl⟩ := Int.eq_ofNat_of_zero_le h0
  have ho : ttOk r player ps n = true := by simp [ttOk, h1, h2]
  unfold ttI
  rw [if_neg (by omega), Int.toNat_natCast]
  cases n with
  | zero => simp [tt, ho]
  | succ n =>
    rw [tt, if_pos ho, if_neg (by omega)]
    have : ((n + 1 : Nat) : Int) - 1 = n := by omega
    rw [this, Int.toNat_natCast]
theorem ttI_no {r : Rul} {player : Int} {ps : List Int} {k : Int} (h : owner r k = player ∨ betw (getI ps k) 2 3 = false) : ttI r player ps k = [] := by
  unfold ttI
  split
  · rfl
  · rename_i hk
    obtain ⟨n, rfl⟩ := Int.eq_ofNat_of_zero_le (Int.not_lt.1 hk)
    have ho : ttOk r player ps n = false := by
      rcases h with h | h <;> simp [ttOk, h]
    rw [Int.toNat_natCast]
    cases n with
    | zero => simp [tt, ho]
    | succ n => rw [tt, if_neg (by rw [ho]; simp)]
theorem gone_nil (r : Rul) (s : Sw) (player : Int) : gone r s player [] = 0 := rfl
theorem gone_cons (r : Rul) (s : Sw) (player k : Int) (l : List Int) : gone r s player (k :: l) = (if owner r k = player then 0 else getI s.pits k) + gone r s player l := by
  unfold gone
  by_cases h : owner r k = player <;> simp [h]
theorem tt_mem {r : Rul} {player : Int} {ps : List Int} : ∀ (n : Nat) (x : Int), x ∈ tt r player ps n → 0 ≤ x ∧ x ≤ n
  | 0, x, h => by
    unfold tt at h
    split at h
    · simp at h; omega
    · simp at h
  | n + 1, x, h => by
    unfold tt at h
    split at h
    · rcases List.mem_cons.1 h with rfl | h
      · omega
      · have := tt_mem n x h; omega
    · simp at h
theorem tt_len {r : Rul} {player : Int} {ps : List Int} : ∀ n : Nat, (tt r player ps n).length ≤ n + 1
  | 0 => by unfold tt; split <;> simp
  | n + 1 => by
    unfold tt
    have := tt_len n (r := r) (player := player) (ps := ps)
    split
    · simp; omega
    · simp
theorem taken_mem {r : Rul} {s : Sw} {player : Int} (h1 : s.last < 2 * r.pits) {x : Int} (hx : x ∈ taken r s player) : 0 ≤ x ∧ x < 2 * r.pits := by
  unfold taken at hx
  split at hx
  · simp at hx
  · rename_i h0
    split at hx
    · have := tt_mem _ _ hx; omega
    · split at hx
      · split at hx
        · simp [opp] at hx; omega
        · simp at hx
      · split at hx
        · split at hx
          · simp at hx; omega
          · simp at hx
        · simp at hx
theorem taken_len {r : Rul} {s : Sw} {player : Int} (h1 : s.last < 2 * r.pits) (hb : r.pits ≤ 8) : (taken r s player).length ≤ 16 := by
  unfold taken
  split
  · simp
  · split
    · have := tt_len s.last.toNat (r := r) (player := player) (ps := s.pits); omega
    · split
      · split <;> simp
      · split
        · split <;> simp
        · simp
def takeL (player : Int) : List Int → List Int → List Int → List Int × List Int
  | [], ps, ss => (ps, ss)
  | x :: l, ps, ss => takeL player l (setI ps x 0) (setI ss player (getI ss player + getI ps x))
theorem Good.takeStep {r : Rul} {ps ss : List Int} (h : Good r ps ss 0) {x player : Int} (x0 : 0 ≤ x) (x1 : x < 2 * r.pits) (p0 : 0 ≤ player) (p1 : player < 2) :
    Good r (setI ps x 0) (setI ss player (getI ss player + getI ps x)) 0 := by
  have hl := h.lp
  have hs := h.ls
  have a := (h.pit x).1
  have b := (h.store player).1
  exact ⟨by simpa using h.lp, by simpa using h.ls, nn_setI h.np x (by omega), nn_setI h.ns player (by omega), by omega, by rw [isum_setI x0 (by omega), isum_setI p0 (by omega)]; have := h.all; omega⟩
theorem getI_setI_other {l : List Int} {k j : Int} (h0 : 0 ≤ k) (h1 : 0 ≤ j) (h : k ≠ j) (v : Int) : getI (setI l k v) j = getI l j := by
  have : k.toNat ≠ j.toNat := by omega
  simp [getI, setI, nth, List.getD, List.getElem?_set, this]
theorem setI_setI (l : List Int) (k v u : Int) : setI (setI l k v) k u = setI l k u := by simp [setI, List.set_set]
theorem takeL_eq {player : Int} (p0 : 0 ≤ player) : ∀ (l ps ss : List Int), l.Nodup → (∀ x ∈ l, 0 ≤ x) → player < ss.length →
    takeL player l ps ss = (zeros l ps, setI ss player (getI ss player + isum (l.map (getI ps))))
  | [], ps, ss, _, _, hs => by
    have : player.toNat < ss.length := by omega
    simp [takeL, zeros, setI, getI, nth, List.getD, this]
  | x :: l, ps, ss, hn, h0, hs => by
    have hx := h0 x (by simp)
    have hn' := List.nodup_cons.1 hn
    rw [takeL, takeL_eq p0 l _ _ hn'.2 (fun y hy => h0 y (by simp [hy])) (by simpa using hs), getI_setI_same p0 hs, setI_setI]
    have e : l.map (getI (setI ps x 0)) = l.map (getI ps) := List.map_congr_left fun y hy => getI_setI_other hx (h0 y (by simp [hy])) (fun e => hn'.1 (e ▸ hy)) 0
    rw [e]
    simp [zeros, Int.add_assoc]
theorem tt_nodup {r : Rul} {player : Int} {ps : List Int} : ∀ n : Nat, (tt r player ps n).Nodup
  | 0 => by unfold tt; split <;> simp
  | n + 1 => by
    unfold tt
    split
    · refine List.nodup_cons.2 ⟨fun h => ?_, tt_nodup n⟩
      have := tt_mem _ _ h; omega
    · simp
theorem taken_nodup (r : Rul) (s : Sw) (player : Int) : (taken r s player).Nodup := by
  unfold taken
  split
  · simp
  · split
    · exact tt_nodup _
    · split
      · split
        · simp [opp]; omega
        · simp
      · split
        · split <;> simp
        · simp
theorem captured_nodup (r : Rul) (s : Sw) (player : Int) : (captured r s player).Nodup := by
  unfold captured; split
  · simp
  · exact taken_nodup r s player
theorem captured_mem {r : Rul} {s : Sw} {player : Int} (h1 : s.last < 2 * r.pits) {x : Int} (hx : x ∈ captured r s player) : 0 ≤ x ∧ x < 2 * r.pits := by
  unfold captured at hx; split at hx
  · simp at hx
  · exact taken_mem h1 hx
theorem captured_len {r : Rul} {s : Sw} {player : Int} (h1 : s.last < 2 * r.pits) (hb : r.pits ≤ 8) : (captured r s player).length ≤ 16 := by
  unfold captured; split
  · simp
  · exact taken_len h1 hb
theorem take_eq {r : Rul} {s : Sw} {player : Int} (h1 : s.last < 2 * r.pits) (p0 : 0 ≤ player) (hs : player < s.stores.length) :
    takeL player (captured r s player) s.pits s.stores = ((take r s player).pits, (take r s player).stores) :=
  takeL_eq p0 _ _ _ (captured_nodup r s player) (fun x hx => (captured_mem h1 hx).1) hs
end Go.Proofs.Ytejnmechnhgmfaa.M

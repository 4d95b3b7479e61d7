/- Plain mathematics of games that are cut. -/
import Derived.Test.YtjdhgkdimanabaaGreatDoorZeA2
import Derived.Lib.ItoaLen
import Derived.Laws.IdiomStrings
import Derived.Lib.LaidTab
import Derived.Sort.Grow
import Derived.Test.YtjdhgkdimanabaaGreatDoorRows
import Derived.Test.YtjdhgkdimanabaaGreatDoorZeA0
import Derived.Test.YtjdhgkdimanabaaGreatDoorProg
import Derived.ProofKit
import Derived.SizedLaws
import Derived.Test.YtjdhgkdimanabaaGreatDoorZeA1
import Derived.Laws.IdiomCopy
import Derived.Laws.Slices
import Derived.Laws.Strings2
set_option linter.unusedSimpArgs false
set_option linter.unusedVariables false
namespace Go.Proofs.YtjdhgkdimanabaaGreatDoor.M
def stdNames : List (List UInt8) := [[107, 97, 108, 97, 104], [109, 105, 110, 105], [111, 119, 97, 114, 101], [114, 101, 108, 97, 121]]
def cutG (g : Gam) (n : Nat) : Gam := ⟨g.rules, g.start, g.moves.take n, (playedP g).getD n Pos.zero, -1⟩
theorem cutG_now {g : Gam} {n : Nat} {y : Pos} (h : (playedP g)[n]? = some y) : (cutG g n).now = y := by simp [cutG, List.getD, h]
def undo (g : Gam) : Gam × Int := if okG g = true then (if g.moves.length = 0 ∨ 0 ≤ g.resigned then (Gam.zero, 6) else (cutG g ((g.moves.length : Int) - 1).toNat, 0)) else (Gam.zero, 1)
theorem undo_0 {g : Gam} (h : okG g = true) (h2 : ¬ (g.moves.length = 0 ∨ 0 ≤ g.resigned)) : undo g = (cutG g ((g.moves.length : Int) - 1).toNat, 0) := by unfold undo; rw [if_pos h, if_neg h2]
def Cut (g : Gam) (k : Nat) : Prop := ∀ j, j < k → endOf (cutG g j) = 0
theorem Cut.zero (g : Gam) : Cut g 0 := fun j h => by omega
theorem Cut.step {g : Gam} {k : Nat} (h : Cut g k) (h2 : endOf (cutG g k) = 0) : Cut g (k + 1) := fun j hj => by
  by_cases e : j = k
  · subst e; exact h2
  · exact h j (by omega)
def startP (r : Rul) : Pos := ⟨List.replicate (2 * r.pits).toNat r.seeds, [0, 0], 0⟩
theorem mul01 {a n : Int} (h0 : 0 ≤ a) (h1 : a = 0 ∨ a < 2) (n0 : 0 ≤ n) (n8 : n ≤ 8) : 0 ≤ a * n ∧ a * n ≤ n ∧ (a + 1) * n = a * n + n := by
  have h : a = 0 ∨ a = 1 := by omega
  rcases h with rfl | rfl <;> simp <;> omega
def legal (r : Rul) (p : Pos) : List Int := if okP r p = true then (results r p).map (·.move) else []
theorem runs_snoc (r : Rul) (m : Int) : ∀ (a : List Int) (p : Pos), (runs r p a).length = a.length → (make r (lastPos p (runs r p a)) m).2 = 0 → runs r p (a ++ [m]) = runs r p a ++ [(make r (lastPos p (runs r p a)) m).1]
  | [], p, _, h => by
    have h' : (make r p m).2 = 0 := h
    show (if (make r p m).2 = 0 then _ else _) = _
    rw [if_pos h']
    rfl
  | x :: xs, p, hl, h => by
    by_cases hz : (make r p x).2 = 0
    · have e : runs r p (x :: xs) = (make r p x).1 :: runs r (make r p x).1.next xs := by rw [runs, if_pos hz]
      rw [e] at hl h ⊢
      have := runs_snoc r m xs (make r p x).1.next (by simpa using hl) h
      rw [List.cons_append, runs, if_pos hz, this]
      rfl
    · rw [runs, if_neg hz] at hl; simp at hl
structure Played (g : Gam) (move : Int) : Prop where
  ok : okG (play g move).1 = true
  code : (make g.rules g.now move).2 = 0
  now : (play g move).1.now = (make g.rules g.now move).1.next
  back : undo (play g move).1 = (g, 0)
theorem played {g : Gam} {move : Int} (h : okG g = true) (hz : (play g move).2 = 0) : Played g move := by
  obtain ⟨k1, k2, k3, k4, k5, k6, k7, k8, k9⟩ := okG_parts h
  by_cases h1 : 0 ≤ g.resigned
  · rw [play_6 h1] at hz; simp at hz
  by_cases h2 : g.moves.length = 120
  · rw [play_5 h1 h2] at hz; simp at hz
  have h3 : (make g.rules g.now move).2 = 0 := Decidable.byContradiction fun h3 => by rw [play_c h1 h2 h3] at hz; exact h3 hz
  have hp := play_0 h1 h2 h3
  have hs := runs_snoc g.rules move g.moves g.start k8 (by rw [← k9]; exact h3)
  rw [← k9] at hs
  have hr : g.resigned = -1 := by omega
  have hok : okG (play g move).1 = true := by
    rw [hp]
    simp only [okG, Bool.and_eq_true, decide_eq_true_eq, hs]
    refine ⟨⟨⟨⟨k1, ?_⟩, betw_iff.2 ⟨k3, k4⟩⟩, ?_⟩, lastPos_snoc _ _ _⟩
    · simp; omega
    · simp [k8]
  refine ⟨hok, h3, by rw [hp], ?_⟩
  have hl : (play g move).1.moves.length = g.moves.length + 1 := by rw [hp]; simp
  have hrr : (play g move).1.resigned = -1 := by rw [hp]; exact hr
  rw [undo_0 hok (by omega), hl]
  have e : (((g.moves.length + 1 : Nat) : Int) - 1).toNat = g.moves.length := by omega
  rw [e]
  obtain ⟨j1, j2, j3, j4, j5, j6, j7, j8, j9⟩ := okG_parts hok
  have hn : (cutG (play g move).1 g.moves.length).now = g.now := by
    refine cutG_now ?_
    rw [j6, hp]
    show (hist g.start (runs g.rules g.start (g.moves ++ [move])))[g.moves.length]? = _
    rw [hs]
    have e2 : hist g.start (runs g.rules g.start g.moves ++ [(make g.rules g.now move).1]) = hist g.start (runs g.rules g.start g.moves) ++ [(make g.rules g.now move).1.next] := by simp [hist]
    rw [e2, List.getElem?_append_left (by simp [k8]), ← k8, hist_last, ← k9]
  refine Prod.ext (gam_ext ?_ ?_ ?_ hn ?_) rfl
  · rw [hp]; rfl
  · rw [hp]; rfl
  · rw [hp]; simp [cutG]
  · rw [hr]; rfl
structure Resigned (g : Gam) (player : Int) : Prop where
  ok : okG (resign g player).1 = true
  play : playR (resign g player).1 0 = (Gam.zero, 6)
  endc : endC (resign g player).1 = 0
  win : winner (resign g player).1 = 1 - player
theorem resigned {g : Gam} {player : Int} (h : (resign g player).2 = 0) : Resigned g player := by
  cases hg : okG g
  · rw [resign_1 hg] at h; simp at h
  cases hp : isPl player
  · rw [resign_2 hg hp] at h; simp at h
  by_cases hr : 0 ≤ g.resigned
  · rw [resign_6 hg hp hr] at h; simp at h
  have e := resign_0 hg hp hr
  have hpl : player = 0 ∨ player = 1 := by simpa [isPl] using hp
  have hok : okG ⟨g.rules, g.start, g.moves, g.now, player⟩ = true := by
    unfold okG at hg ⊢
    simp only [Bool.and_eq_true] at hg ⊢
    obtain ⟨⟨⟨⟨a, b⟩, _⟩, d⟩, f⟩ := hg
    exact ⟨⟨⟨⟨a, b⟩, betw_iff.2 (by omega)⟩, d⟩, f⟩
  have h0 : 0 ≤ (⟨g.rules, g.start, g.moves, g.now, player⟩ : Gam).resigned := by show 0 ≤ player; omega
  have hc : endC ⟨g.rules, g.start, g.moves, g.now, player⟩ = 0 := endC_0 hok (by rw [endOf_1 h0]; decide)
  refine ⟨?_, ?_, ?_, ?_⟩ <;> rw [e]
  · exact hok
  · rw [playR_yes hok, play_6 h0]
  · exact hc
  · exact winner_r hc h0
def endNames : List (List UInt8) := [[110, 111, 110, 101], [114, 101, 115, 105, 103, 110], [109, 97, 106, 111, 114, 105, 116, 121], [98, 108, 111, 99, 107, 101, 100], [114, 101, 112, 101, 97, 116], [108, 101, 110, 103, 116, 104]]
def endName (k : Int) : List UInt8 := if betw k 0 5 = true then endNames.getD k.toNat [] else []
def u8 (n : Int) : UInt8 := UInt8.ofNat n.toNat
theorem u8_val {n : Int} (h0 : 0 ≤ n) (h1 : n ≤ 255) : ((u8 n).toNat : Int) = n := by
  unfold u8
  rw [UInt8.toNat_ofNat', Nat.mod_eq_of_lt (by show n.toNat < 256; omega)]; omega
def dec (n : Int) : List UInt8 := if -9223372036854775808 ≤ n ∧ n ≤ 9223372036854775807 then Lib.itoa n else []
theorem dec_in {n : Int} (h0 : -9223372036854775808 ≤ n) (h1 : n ≤ 9223372036854775807) : dec n = Lib.itoa n := if_pos ⟨h0, h1⟩
theorem dec_len (n : Int) : (dec n).length ≤ 21 := by
  unfold dec; split
  · rename_i h; exact Lib.itoa_length_le n h.1 h.2
  · simp
theorem tdiv10 (k : Int) : (k.tdiv 10).natAbs = k.natAbs / 10 ∧ (k.tmod 10).natAbs = k.natAbs % 10 := ⟨Int.natAbs_tdiv k 10, Int.natAbs_tmod k 10⟩
theorem tdiv10_bd {k : Int} (h0 : -9223372036854775808 ≤ k) (h1 : k ≤ 9223372036854775807) : -9223372036854775808 ≤ k.tdiv 10 ∧ k.tdiv 10 ≤ 9223372036854775807 ∧ -9 ≤ k.tmod 10 ∧ k.tmod 10 ≤ 9 := by
  obtain ⟨a, b⟩ := tdiv10 k
  omega
def DecI (n k : Int) (out : List UInt8) : Prop := (n = 0 ∧ k = 0 ∧ out = []) ∨ (n ≠ 0 ∧ ((k ≠ 0 ∧ Lib.decDigits n.natAbs = Lib.decDigits k.natAbs ++ out) ∨ (k = 0 ∧ out = Lib.decDigits n.natAbs)))
theorem DecI.zero (n : Int) : DecI n n [] := by
  by_cases h : n = 0
  · exact .inl ⟨h, h, rfl⟩
  · exact .inr ⟨h, .inl ⟨h, by simp⟩⟩
theorem DecI.step {n k d : Int} {out : List UInt8} (h : DecI n k out) (hk : k ≠ 0) (hd : d = (k.tmod 10).natAbs) : DecI n (k.tdiv 10) (u8 (48 + d) :: out) := by
  rcases h with ⟨_, h, _⟩ | ⟨h0, ⟨_, h⟩ | ⟨h, _⟩⟩
  · exact absurd h hk
  · refine .inr ⟨h0, ?_⟩
    obtain ⟨a, b⟩ := tdiv10 k
    have e8 : u8 (48 + d) = UInt8.ofNat (48 + k.natAbs % 10) := by
      unfold u8; congr 1; omega
    by_cases hs : k.natAbs < 10
    · have : k.tdiv 10 = 0 := by omega
      refine .inr ⟨this, ?_⟩
      rw [h, Lib.decDigits, dif_pos hs, e8, Nat.mod_eq_of_lt hs]; rfl
    · have : k.tdiv 10 ≠ 0 := by omega
      refine .inl ⟨this, ?_⟩
      rw [h, Lib.decDigits, dif_neg hs, e8, a]; simp
  · exact absurd h hk
theorem decDigits_pos (u : Nat) : 1 ≤ (Lib.decDigits u).length := by rw [Lib.decDigits_length]; exact Lib.nDigits_pos u
theorem decDigits_len {n : Int} (h0 : -9223372036854775808 ≤ n) (h1 : n ≤ 9223372036854775807) : (Lib.decDigits n.natAbs).length ≤ 20 := by
  rw [Lib.decDigits_length]; exact Lib.nDigits_le20 _ (by omega)
theorem DecI.len {n k : Int} {out : List UInt8} (h : DecI n k out) (h0 : -9223372036854775808 ≤ n) (h1 : n ≤ 9223372036854775807) : out.length ≤ 20 := by
  have hb := decDigits_len h0 h1
  rcases h with ⟨_, _, rfl⟩ | ⟨_, ⟨_, h⟩ | ⟨_, rfl⟩⟩
  · simp
  · have := congrArg List.length h; rw [List.length_append] at this; omega
  · exact hb
theorem DecI.done0 {n : Int} {out : List UInt8} (h : DecI n 0 out) (hl : out.length = 0) (h0 : -9223372036854775808 ≤ n) (h1 : n ≤ 9223372036854775807) : dec n = [48] := by
  rw [dec_in h0 h1]
  rcases h with ⟨rfl, _, _⟩ | ⟨_, ⟨h, _⟩ | ⟨_, rfl⟩⟩
  · unfold Lib.itoa; rw [if_neg (by decide), Lib.decDigits, dif_pos (by decide)]; rfl
  · exact absurd rfl h
  · have := decDigits_pos n.natAbs; omega
theorem DecI.nz {n : Int} {out : List UInt8} (h : DecI n 0 out) (hl : out.length ≠ 0) : out = Lib.decDigits n.natAbs := by
  rcases h with ⟨_, _, rfl⟩ | ⟨_, ⟨h, _⟩ | ⟨_, rfl⟩⟩
  · simp at hl
  · exact absurd rfl h
  · rfl
theorem DecI.neg {n : Int} {out : List UInt8} (h : DecI n 0 out) (hl : out.length ≠ 0) (hn : n < 0) (h0 : -9223372036854775808 ≤ n) (h1 : n ≤ 9223372036854775807) : dec n = [45] ++ out := by
  rw [dec_in h0 h1]; unfold Lib.itoa; rw [if_pos hn, h.nz hl]; rfl
theorem DecI.pos {n : Int} {out : List UInt8} (h : DecI n 0 out) (hl : out.length ≠ 0) (hn : ¬ n < 0) (h0 : -9223372036854775808 ≤ n) (h1 : n ≤ 9223372036854775807) : dec n = out := by
  rw [dec_in h0 h1]; unfold Lib.itoa; rw [if_neg hn, h.nz hl, show n.toNat = n.natAbs by omega]
theorem endNames_len {k : Nat} {y : List UInt8} (h : endNames[k]? = some y) : y.length ≤ 8 := by
  have hm := List.mem_of_getElem? h
  have : ∀ x ∈ endNames, x.length ≤ 8 := by decide
  exact this y hm
theorem endName_len (k : Int) : (endName k).length ≤ 8 := by
  unfold endName; split
  · rw [List.getD_eq_getElem?_getD]
    cases h : endNames[k.toNat]? with
    | none => simp
    | some y => exact endNames_len h
  · simp
end Go.Proofs.YtjdhgkdimanabaaGreatDoor.M
namespace Go.Proofs.YtjdhgkdimanabaaGreatDoor
open Go.RowKit
def byt_ (l : List UInt8) : List Value := l.map fun b => .int .u8 (b.toNat : Int)
theorem byt_one (l : List UInt8) : (byt_ l).all (·.oneCell') = true := by
  rw [List.all_eq_true]; intro v hv
  obtain ⟨b, _, rfl⟩ := List.mem_map.1 hv
  rfl
theorem byt_len (l : List UInt8) : (byt_ l).length = l.length := by simp [byt_]
section
variable {P : Program} {n lo : Nat} {B : List Nat} {l : Fr} {os : List Own} {u : World} {dst : Option Tmp} {ty : TypeId} {pos : String} {af : Array Edge} {gd : Option (Nat × Bool)}
theorem src_rowG {tx e' e : TypeId} {sz i m c : Nat} {A : Option Addr} {vs : List Value} {g : List Nat} (hk : P.underlying tx = some (.slice e')) (hi : os[i]? = some (rowO e sz (.slice A m c) m vs g)) (h1 : vs.all (·.oneCell') = true) (hsz : 0 < sz := by decide) :
    ∀ w, St lo B u w os → Src P sz tx (.slice A m c) m vs w := fun w hw => by
  have hl := row_len hi w hw
  refine src_of hk hl (fun hp => ?_) h1 (fun h0 => ?_)
  · rcases row_form hi w hw with ⟨c', h2, h3, _⟩ | ⟨b, c', h2, _, _⟩
    · rw [h3, Nat.zero_mul] at hl; omega
    · injection h2 with h2 _ _
      subst h2
      exact ⟨b, 0, rfl, fun j v hj => by rw [Nat.zero_add]; exact Mem.row hi hj w hw⟩
  · rw [h0] at hl
    rcases Nat.mul_eq_zero.1 hl.symm with h | h <;> omega
theorem q_toStr {x : Operand} {src dt e e' : TypeId} {i m c : Nat} {A : Option Addr} {xs : List UInt8} {g : List Nat} (hs : P.underlying src = some (.slice e)) (he : P.underlying e = some (.int .u8)) (hd : P.underlying dt = some .string)
    (hx : opd l x = some (.slice A m c)) (hi : os[i]? = some (rowO e' 1 (.slice A m c) m (byt_ xs) g)) : OpQ P n lo B l os u ⟨dst, .convert src dt x, ty, pos, af, gd⟩ (.string (sB xs)) := fun a w ha hw => by
  have hl : m = xs.length := by have := row_len hi w hw; rw [byt_len] at this; omega
  subst hl
  have key : (convert src dt (.slice A xs.length c)).run P w = .ok (.string (sB xs)) w := by
    rcases row_form hi w hw with ⟨c', h2, h3, _⟩ | ⟨b, c', h2, _, _⟩
    · injection h2 with h2 _ _
      subst h2
      have hx0 : xs = [] := List.eq_nil_of_length_eq_zero h3
      subst hx0
      rw [run_convert_bytes_string w src dt e none _ c hs he hd]
      rfl
    · injection h2 with h2 _ _
      subst h2
      exact run_convert_bytes_back w src dt e ⟨b, 0, none⟩ c xs hs he hd (fun j hj => by
        rw [addr_add, Nat.zero_add]
        refine (Mem.row hi ?_ w hw).get
        simp [byt_, List.getElem?_eq_getElem hj])
  simp only [execOp, ha.eval hx, Sem.run_bind, key, Result.andThen_ok, Sem.run_pure]
end
theorem grow_ext (w : World) (k : Nat) (os : Array Obj) : Ext w (Sort.grow (w.drewN k) os) := by
  refine ⟨rfl, rfl, rfl, ?_, fun a ha => ?_⟩
  · simp [Sort.grow, World.drewN]
  · simp [Sort.grow, World.drewN, Array.getElem?_append_left, ha]
class LenB (l : List UInt8) (k : outParam Nat) : Prop where h : l.length ≤ k
instance : LenB [] 0 := ⟨Nat.le_refl _⟩
instance {a : UInt8} {l : List UInt8} {k : Nat} [h : LenB l k] : LenB (a :: l) (k + 1) := ⟨Nat.succ_le_succ h.h⟩
instance {a b : List UInt8} {i j : Nat} [h : LenB a i] [k : LenB b j] : LenB (a ++ b) (i + j) := ⟨by rw [List.length_append]; exact Nat.add_le_add h.h k.h⟩
instance {n : Int} : LenB (M.dec n) 21 := ⟨M.dec_len n⟩
instance {n : Int} : LenB (M.endName n) 8 := ⟨M.endName_len n⟩
theorem q_cat {P : Program} {n : Nat} {l : Fr} {dst : Option Tmp} {ty : TypeId} {pos : String} {af : Array Edge} {gd : Option (Nat × Bool)} {x y : Operand} {a b : List UInt8} {t t' : TypeId} {i j : Nat} [ha : LenB a i] [hb : LenB b j] (h1 : opd l x = some (.string (sB a))) (h2 : opd l y = some (.string (sB b))) (hl : Nat.ble (i + j) 9223372036854775807 = true := by rfl) :
    OpP P n l ⟨dst, .binOp .add t x y t', ty, pos, af, gd⟩ (.string (sB (a ++ b))) := p_cat h1 h2 (Nat.le_trans (Nat.add_le_add ha.h hb.h) (by simpa [Nat.ble_eq] using hl))
def tabN : String := Rows.fnPuzzleTextsRow.named.headD ""
def tabT : Ty := ⟨fun w _ => Lib.TabIs Tryz.prog w tabN .u64 Lib.pow10Tab, fun _ _ _ => False, fun {u w v} h k => by
  unfold Lib.TabIs World.var? at *
  cases hg : (Tryz.prog).globalNamed tabN with
  | none => rw [hg] at h; simp at h
  | some g =>
    rw [hg] at h
    simp only [Option.bind_some] at h ⊢
    split at h
    · rename_i cs t f hc
      rw [k.vis g cs t f hc]; exact h
    · simp at h, fun h _ => h, fun h => h.elim⟩
theorem c_strconv_FormatInt (n b : Int) {w : World} (h_tab : tabT.ok w undef) (r0 : b = 10 := by exact om_) (r1 : -9223372036854775808 ≤ n := by exact om_) (r2 : n ≤ 9223372036854775807 := by exact om_) : RetV Tryz.prog 92 [.int .i64 n, .int .i64 b] w (.string (sB (M.dec n))) := by
  subst r0
  rw [M.dec_in r1 r2]
  exact Calls.mono (Any.strconv_FormatInt_10 laysM173 n r1 r2 w h_tab) fun e w' ⟨he, k, os, hw⟩ => ⟨he, by subst hw; exact grow_ext w k os⟩
def fltV {α : Type} (C : α → List Value) (xs : List α) : List Value := xs.flatMap C
class FltL {α : Type} (F : List α → List Ty) (C : outParam (α → List Value)) (n : outParam Nat) : Prop where
  own : ∀ w xs, cellsOwn w (F xs) (fltV C xs) []
  uniq : ∀ w xs vs f, cellsOwn w (F xs) vs f → vs = fltV C xs ∧ f = []
  ok : ∀ w xs vs, cellsOk w (F xs) vs → vs = fltV C xs
  one : ∀ xs, (fltV C xs).all (·.oneCell') = true
  lenC : ∀ x, (C x).length = n
  lenF : ∀ xs, (F xs).length = xs.length * n
  pos : 0 < n
instance (priority := high) {α : Type} (F : List α → List Ty) (C : α → List Value) (e sz : Nat) (xs : List α) [h : FltL F C sz] : Elm (Ty.sl e sz xs.length (F xs)) (fun K os => ∀ A c, xs.length ≤ c → c ≤ 9223372036854775807 → K (.slice A xs.length c) (rowO e sz (.slice A xs.length c) xs.length (fltV C xs) [] :: os)) :=
  ⟨fun K os k w v fp ho => by
    obtain ⟨ow, ⟨A, c, vs, f, rfl, rfl, h1, h2⟩, he, hp⟩ := Spl.sl e sz xs.length (F xs) w v fp ho
    have h3 : cellsOwn w (F xs) vs f := hp (ownC (F xs) vs f) (by simp)
    obtain ⟨rfl, rfl⟩ := h.uniq w xs vs f h3
    exact ⟨[rowO e sz (.slice A xs.length c) xs.length (fltV C xs) []], k A c h1 h2, by rw [he]; simp [ownC], fun o ho' => hp o (by simp at ho'; simp [ho'])⟩⟩
section
variable {P : Program} {n lo : Nat} {B : List Nat} {Q : Exit → Act → World → Prop} {cs : List Code} {K : Act → World → Prop} {ops : Array Oper} {rest : List Oper} {l : Fr} {os os' os1 : List Own} {u : World} {ty : TypeId} {pos : String} {af : Array Edge} {gd : Option (Nat × Bool)} {dst : Option Tmp} {v : Value} {d : Nat} {x y : Operand} {c : Bool} {o : Oper}
  {u₀ : World} {os₀ : List Own} {nm : List Nat} {fuel i : Nat} {listed : Array Bool} {z : Bool}
theorem ints_one (l : List Int) : (ints_ l).all (·.oneCell') = true := by
  induction l with
  | nil => rfl
  | cons x l ih => simp only [ints_, List.map_cons, List.all_cons] at ih ⊢; exact ih
theorem src_rowH {tx e' e : TypeId} {sz i m c : Nat} {A : Option Addr} {vs : List Value} {g : List Nat} (hk : P.underlying tx = some (.slice e')) (hi : os[i]? = some (rowO e sz (.slice A m c) m vs g)) (h1 : vs.all (·.oneCell') = true) (hsz : 0 < sz := by decide) :
    ∀ w, St lo B u w os → Src P sz tx (.slice A m c) m vs w := fun w hw => by
  have hl := row_len hi w hw
  refine src_of hk hl (fun hp => ?_) h1 (fun h0 => ?_)
  · rcases row_form hi w hw with ⟨c', h2, h3, _⟩ | ⟨b, c', h2, _, _⟩
    · rw [h3, Nat.zero_mul] at hl; omega
    · injection h2 with h2 _ _
      subst h2
      exact ⟨b, 0, rfl, fun j v hj => by rw [Nat.zero_add]; exact Mem.row hi hj w hw⟩
  · rw [h0] at hl
    rcases Nat.mul_eq_zero.1 hl.symm with h | h <;> omega
class UnpV (T : Ty) (v : Value) (E : outParam ((List Own → Prop) → List Own → Prop)) : Prop where
  h : ∀ K os, E K os → ∀ w fp, T.own w v fp → ∃ ow, K (ow ++ os) ∧ fp.Perm (ow.flatMap (·.fp)) ∧ ∀ o ∈ ow, o.pr w
class UnpL (Ts : List Ty) (vs : List Value) (E : outParam ((List Own → Prop) → List Own → Prop)) : Prop where
  h : ∀ K os, E K os → ∀ w fp, cellsOwn w Ts vs fp → ∃ ow, K (ow ++ os) ∧ fp.Perm (ow.flatMap (·.fp)) ∧ ∀ o ∈ ow, o.pr w
instance (x v : Value) : UnpV (Ty.val x) v (fun K os => K os) := ⟨fun K os h w fp ⟨_, e2⟩ => ⟨[], h, by rw [e2]; exact List.Perm.refl _, by simp⟩⟩
instance (x : Int) (v : Value) : UnpV (Ty.int x) v (fun K os => K os) := inferInstanceAs (UnpV (Ty.val _) _ _)
instance (x : Bool) (v : Value) : UnpV (Ty.bool x) v (fun K os => K os) := inferInstanceAs (UnpV (Ty.val _) _ _)
instance (x : List UInt8) (v : Value) : UnpV (Ty.str x) v (fun K os => K os) := inferInstanceAs (UnpV (Ty.val _) _ _)
instance (e : TypeId) (xs : List Int) (A : Option Addr) (m c : Nat) : UnpV (Ty.ints e xs) (.slice A m c) (fun K os => K (rowO e 1 (.slice A m c) m (ints_ xs) [] :: os)) :=
  ⟨fun K os k w fp ho => by
    obtain ⟨h1, h2⟩ := ints_open ho
    exact ⟨[_], k, by rw [h2]; simp, fun o ho' => by simp at ho'; subst ho'; exact h1⟩⟩
instance (e sz n : Nat) (Ts : List Ty) (A : Option Addr) (m c : Nat) : UnpV (Ty.sl e sz n Ts) (.slice A m c) (fun K os => ∀ vs f, K (rowO e sz (.slice A m c) m vs [] :: ownC Ts vs f :: os)) :=
  ⟨fun K os k w fp ho => by
    obtain ⟨A', c', he, _, _⟩ := sl_form ((Ty.sl e sz n Ts).ownok ho)
    injection he with _ he _
    subst he
    obtain ⟨_, vs, f, h3, h4, h5⟩ := ho
    refine ⟨[rowO e sz (.slice A m c) m vs [], ownC Ts vs f], k vs f, by rw [h4]; simp [rowO, ownC], fun o ho' => ?_⟩
    simp only [List.mem_cons, List.not_mem_nil, or_false] at ho'
    rcases ho' with rfl | rfl
    · exact h3
    · exact h5⟩
instance (priority := high) {α : Type} (F : List α → List Ty) (C : α → List Value) (e sz : Nat) (xs : List α) (A : Option Addr) (m c : Nat) [hf : FltL F C sz] : UnpV (Ty.sl e sz xs.length (F xs)) (.slice A m c) (fun K os => K (rowO e sz (.slice A m c) m (fltV C xs) [] :: os)) :=
  ⟨fun K os k w fp ho => by
    obtain ⟨A', c', he, _, _⟩ := sl_form ((Ty.sl e sz xs.length (F xs)).ownok ho)
    injection he with _ he _
    subst he
    obtain ⟨_, vs, f, h3, h4, h5⟩ := ho
    obtain ⟨rfl, rfl⟩ := hf.uniq w xs vs f h5
    exact ⟨[rowO e sz (.slice A xs.length c) xs.length (fltV C xs) []], k, by rw [h4]; simp [rowO], fun o ho' => by simp at ho'; subst ho'; exact h3⟩⟩
instance : UnpL [] [] (fun K os => K os) := ⟨fun K os k w fp ho => ⟨[], k, by rw [show fp = [] from ho]; exact List.Perm.refl _, by simp⟩⟩
instance (T : Ty) (Ts : List Ty) (v : Value) (vs : List Value) (E1 E2 : (List Own → Prop) → List Own → Prop) [h1 : UnpV T v E1] [h2 : UnpL Ts vs E2] : UnpL (T :: Ts) (v :: vs) (fun K os => E1 (fun os1 => E2 K os1) os) :=
  ⟨fun K os k w fp ho => by
    obtain ⟨f1, f2, rfl, ho1, ho2⟩ := ho
    obtain ⟨w1, k1, p1, q1⟩ := h1.h _ _ k w f1 ho1
    obtain ⟨w2, k2, p2, q2⟩ := h2.h _ _ k1 w f2 ho2
    refine ⟨w2 ++ w1, by rw [List.append_assoc]; exact k2, ?_, fun o ho => (List.mem_append.1 ho).elim (q2 o) (q1 o)⟩
    rw [List.flatMap_append]
    exact (p1.append p2).trans List.perm_append_comm⟩
end
theorem cellsOk_cons {w : World} {T : Ty} {Ts : List Ty} : ∀ {vs : List Value}, cellsOk w (T :: Ts) vs → ∃ x r, vs = x :: r ∧ T.ok w x ∧ cellsOk w Ts r
  | x :: r, h => ⟨x, r, rfl, h.1, h.2⟩
theorem cellsOk_nil {w : World} : ∀ {vs : List Value}, cellsOk w [] vs → vs = []
  | [], _ => rfl
theorem drop_flat {α β : Type} (f : α → List β) (k : Nat) (hf : ∀ a, (f a).length = k) : ∀ (l : List α) (i : Nat) (a : α), l[i]? = some a → ((l.flatMap f).drop (i * k)).take k = f a
  | x :: l, 0, a, h => by
    simp at h; subst h
    simp [List.flatMap_cons, hf, List.take_append]
  | x :: l, i + 1, a, h => by
    simp at h
    rw [List.flatMap_cons, Nat.succ_mul, Nat.add_comm, ← List.drop_drop, List.drop_left' (hf x)]
    exact drop_flat f k hf l i a h
  | [], _, _, h => by simp at h
theorem flat_len {α β : Type} (f : α → List β) (k : Nat) (hf : ∀ a, (f a).length = k) : ∀ (l : List α), (l.flatMap f).length = l.length * k
  | [] => by simp
  | x :: l => by rw [List.flatMap_cons, List.length_append, hf, flat_len f k hf l, List.length_cons, Nat.succ_mul, Nat.add_comm]
instance ty_2 : TyI Tryz.prog 2 false 1 := ⟨by kernel_rfl⟩
instance ty_3 : TyI Tryz.prog 3 false 1 := ⟨by kernel_rfl⟩
instance ty_4 : TyI Tryz.prog 4 false 1 := ⟨by kernel_rfl⟩
instance ty_5 : TyI Tryz.prog 5 false 1 := ⟨by kernel_rfl⟩
instance ty_9 : TyI Tryz.prog 9 false 1 := ⟨by kernel_rfl⟩
instance ty_22 : TyI Tryz.prog 22 false 1 := ⟨by kernel_rfl⟩
instance ty_25 : TyI Tryz.prog 25 true 9 := ⟨by kernel_rfl⟩
instance ty_26 : TyI Tryz.prog 26 false 1 := ⟨by kernel_rfl⟩
instance ty_28 : TyI Tryz.prog 28 true 3 := ⟨by kernel_rfl⟩
instance ty_30 : TyI Tryz.prog 30 true 16 := ⟨by kernel_rfl⟩
instance ty_81 : TyI Tryz.prog 81 false 1 := ⟨by kernel_rfl⟩
instance ty_87 : TyI Tryz.prog 87 true 6 := ⟨by kernel_rfl⟩
instance ty_99 : TyI Tryz.prog 99 true 2 := ⟨by kernel_rfl⟩
instance ty_124 : TyI Tryz.prog 124 false 1 := ⟨by kernel_rfl⟩
instance ty_126 : TyI Tryz.prog 126 true 3 := ⟨by kernel_rfl⟩
instance ty_139 : TyI Tryz.prog 139 true 4 := ⟨by kernel_rfl⟩
instance ty_154 : TyI Tryz.prog 154 true 2 := ⟨by kernel_rfl⟩
instance ty_185 : TyI Tryz.prog 185 true 15 := ⟨by kernel_rfl⟩
instance fld_25_0 : FldI Tryz.prog 25 0 0 2 false 1 := ⟨by kernel_rfl⟩
instance fld_25_1 : FldI Tryz.prog 25 1 1 2 false 1 := ⟨by kernel_rfl⟩
instance fld_25_2 : FldI Tryz.prog 25 2 2 4 false 1 := ⟨by kernel_rfl⟩
instance fld_25_3 : FldI Tryz.prog 25 3 3 4 false 1 := ⟨by kernel_rfl⟩
instance fld_25_4 : FldI Tryz.prog 25 4 4 4 false 1 := ⟨by kernel_rfl⟩
instance fld_25_5 : FldI Tryz.prog 25 5 5 4 false 1 := ⟨by kernel_rfl⟩
instance fld_25_6 : FldI Tryz.prog 25 6 6 4 false 1 := ⟨by kernel_rfl⟩
instance fld_25_7 : FldI Tryz.prog 25 7 7 2 false 1 := ⟨by kernel_rfl⟩
instance fld_25_8 : FldI Tryz.prog 25 8 8 2 false 1 := ⟨by kernel_rfl⟩
instance fld_28_0 : FldI Tryz.prog 28 0 0 26 false 1 := ⟨by kernel_rfl⟩
instance fld_28_1 : FldI Tryz.prog 28 1 1 26 false 1 := ⟨by kernel_rfl⟩
instance fld_28_2 : FldI Tryz.prog 28 2 2 2 false 1 := ⟨by kernel_rfl⟩
instance fld_30_0 : FldI Tryz.prog 30 0 0 25 true 9 := ⟨by kernel_rfl⟩
instance fld_30_1 : FldI Tryz.prog 30 1 9 28 true 3 := ⟨by kernel_rfl⟩
instance fld_30_2 : FldI Tryz.prog 30 2 12 2 false 1 := ⟨by kernel_rfl⟩
instance fld_30_3 : FldI Tryz.prog 30 3 13 2 false 1 := ⟨by kernel_rfl⟩
instance fld_30_4 : FldI Tryz.prog 30 4 14 2 false 1 := ⟨by kernel_rfl⟩
instance fld_30_5 : FldI Tryz.prog 30 5 15 2 false 1 := ⟨by kernel_rfl⟩
instance fld_87_0 : FldI Tryz.prog 87 0 0 2 false 1 := ⟨by kernel_rfl⟩
instance fld_87_1 : FldI Tryz.prog 87 1 1 2 false 1 := ⟨by kernel_rfl⟩
instance fld_87_2 : FldI Tryz.prog 87 2 2 4 false 1 := ⟨by kernel_rfl⟩
instance fld_87_3 : FldI Tryz.prog 87 3 3 28 true 3 := ⟨by kernel_rfl⟩
instance fld_99_0 : FldI Tryz.prog 99 0 0 2 false 1 := ⟨by kernel_rfl⟩
instance fld_99_1 : FldI Tryz.prog 99 1 1 2 false 1 := ⟨by kernel_rfl⟩
instance fld_126_0 : FldI Tryz.prog 126 0 0 22 false 1 := ⟨by kernel_rfl⟩
instance fld_126_1 : FldI Tryz.prog 126 1 1 3 false 1 := ⟨by kernel_rfl⟩
instance fld_126_2 : FldI Tryz.prog 126 2 2 124 false 1 := ⟨by kernel_rfl⟩
instance fld_139_0 : FldI Tryz.prog 139 0 0 26 false 1 := ⟨by kernel_rfl⟩
instance fld_139_1 : FldI Tryz.prog 139 1 1 26 false 1 := ⟨by kernel_rfl⟩
instance fld_139_2 : FldI Tryz.prog 139 2 2 2 false 1 := ⟨by kernel_rfl⟩
instance fld_139_3 : FldI Tryz.prog 139 3 3 2 false 1 := ⟨by kernel_rfl⟩
instance fld_154_0 : FldI Tryz.prog 154 0 0 81 false 1 := ⟨by kernel_rfl⟩
instance fld_154_1 : FldI Tryz.prog 154 1 1 2 false 1 := ⟨by kernel_rfl⟩
instance fld_185_0 : FldI Tryz.prog 185 0 0 25 true 9 := ⟨by kernel_rfl⟩
instance fld_185_1 : FldI Tryz.prog 185 1 9 2 false 1 := ⟨by kernel_rfl⟩
instance fld_185_2 : FldI Tryz.prog 185 2 10 139 true 4 := ⟨by kernel_rfl⟩
instance fld_185_3 : FldI Tryz.prog 185 3 14 26 false 1 := ⟨by kernel_rfl⟩
instance eI_22 : ElI Tryz.prog 22 5 1 1 [.int .u8 0] := ⟨by kernel_rfl⟩
theorem el_22 : elOf Tryz.prog 22 = some (5, 1, 1, [.int .u8 0]) := ElI.h
instance eI_26 : ElI Tryz.prog 26 2 1 8 [.int .i64 0] := ⟨by kernel_rfl⟩
theorem el_26 : elOf Tryz.prog 26 = some (2, 1, 8, [.int .i64 0]) := ElI.h
instance eI_50 : ElI Tryz.prog 50 9 1 16 [.string ByteArray.empty] := ⟨by kernel_rfl⟩
theorem el_50 : elOf Tryz.prog 50 = some (9, 1, 16, [.string ByteArray.empty]) := ElI.h
instance eI_84 : ElI Tryz.prog 84 87 6 80 [.int .i64 0, .int .i64 0, .bool false, .slice none 0 0, .slice none 0 0, .int .i64 0] := ⟨by kernel_rfl⟩
theorem el_84 : elOf Tryz.prog 84 = some (87, 6, 80, [.int .i64 0, .int .i64 0, .bool false, .slice none 0 0, .slice none 0 0, .int .i64 0]) := ElI.h
instance eI_95 : ElI Tryz.prog 95 99 2 16 [.int .i64 0, .int .i64 0] := ⟨by kernel_rfl⟩
theorem el_95 : elOf Tryz.prog 95 = some (99, 2, 16, [.int .i64 0, .int .i64 0]) := ElI.h
instance zero_25 : ZeroI Tryz.prog 25 [.int .i64 0, .int .i64 0, .bool false, .bool false, .bool false, .bool false, .bool false, .int .i64 0, .int .i64 0] := ⟨by kernel_rfl⟩
instance zero_28 : ZeroI Tryz.prog 28 [.slice none 0 0, .slice none 0 0, .int .i64 0] := ⟨by kernel_rfl⟩
instance zero_30 : ZeroI Tryz.prog 30 [.int .i64 0, .int .i64 0, .bool false, .bool false, .bool false, .bool false, .bool false, .int .i64 0, .int .i64 0, .slice none 0 0, .slice none 0 0, .int .i64 0, .int .i64 0, .int .i64 0, .int .i64 0, .int .i64 0] := ⟨by kernel_rfl⟩
instance zero_87 : ZeroI Tryz.prog 87 [.int .i64 0, .int .i64 0, .bool false, .slice none 0 0, .slice none 0 0, .int .i64 0] := ⟨by kernel_rfl⟩
instance zero_99 : ZeroI Tryz.prog 99 [.int .i64 0, .int .i64 0] := ⟨by kernel_rfl⟩
instance zero_126 : ZeroI Tryz.prog 126 [.slice none 0 0, .int .i64 0, .int .u64 0] := ⟨by kernel_rfl⟩
instance zero_139 : ZeroI Tryz.prog 139 [.slice none 0 0, .slice none 0 0, .int .i64 0, .int .i64 0] := ⟨by kernel_rfl⟩
instance zero_154 : ZeroI Tryz.prog 154 [.pointer none, .int .i64 0] := ⟨by kernel_rfl⟩
instance zero_185 : ZeroI Tryz.prog 185 [.int .i64 0, .int .i64 0, .bool false, .bool false, .bool false, .bool false, .bool false, .int .i64 0, .int .i64 0, .int .i64 0, .slice none 0 0, .slice none 0 0, .int .i64 0, .int .i64 0, .slice none 0 0] := ⟨by kernel_rfl⟩
instance flds_25 : FldsI Tryz.prog 25 [(0, 1), (1, 1), (2, 1), (3, 1), (4, 1), (5, 1), (6, 1), (7, 1), (8, 1)] := ⟨by kernel_rfl⟩
instance flds_28 : FldsI Tryz.prog 28 [(0, 1), (1, 1), (2, 1)] := ⟨by kernel_rfl⟩
instance flds_30 : FldsI Tryz.prog 30 [(0, 9), (9, 3), (12, 1), (13, 1), (14, 1), (15, 1)] := ⟨by kernel_rfl⟩
instance flds_87 : FldsI Tryz.prog 87 [(0, 1), (1, 1), (2, 1), (3, 3)] := ⟨by kernel_rfl⟩
instance flds_99 : FldsI Tryz.prog 99 [(0, 1), (1, 1)] := ⟨by kernel_rfl⟩
instance flds_126 : FldsI Tryz.prog 126 [(0, 1), (1, 1), (2, 1)] := ⟨by kernel_rfl⟩
instance flds_139 : FldsI Tryz.prog 139 [(0, 1), (1, 1), (2, 1), (3, 1)] := ⟨by kernel_rfl⟩
instance flds_154 : FldsI Tryz.prog 154 [(0, 1), (1, 1)] := ⟨by kernel_rfl⟩
instance flds_185 : FldsI Tryz.prog 185 [(0, 9), (9, 1), (10, 4), (14, 1)] := ⟨by kernel_rfl⟩
instance fn_5 : FnI Tryz.prog 5 := ⟨by kernel_rfl⟩
instance fn_6 : FnI Tryz.prog 6 := ⟨by kernel_rfl⟩
instance fn_7 : FnI Tryz.prog 7 := ⟨by kernel_rfl⟩
instance fn_8 : FnI Tryz.prog 8 := ⟨by kernel_rfl⟩
instance fn_9 : FnI Tryz.prog 9 := ⟨by kernel_rfl⟩
instance fn_10 : FnI Tryz.prog 10 := ⟨by kernel_rfl⟩
instance fn_11 : FnI Tryz.prog 11 := ⟨by kernel_rfl⟩
instance fn_12 : FnI Tryz.prog 12 := ⟨by kernel_rfl⟩
instance fn_13 : FnI Tryz.prog 13 := ⟨by kernel_rfl⟩
instance fn_14 : FnI Tryz.prog 14 := ⟨by kernel_rfl⟩
instance fn_15 : FnI Tryz.prog 15 := ⟨by kernel_rfl⟩
instance fn_16 : FnI Tryz.prog 16 := ⟨by kernel_rfl⟩
instance fn_17 : FnI Tryz.prog 17 := ⟨by kernel_rfl⟩
instance fn_18 : FnI Tryz.prog 18 := ⟨by kernel_rfl⟩
instance fn_19 : FnI Tryz.prog 19 := ⟨by kernel_rfl⟩
instance fn_20 : FnI Tryz.prog 20 := ⟨by kernel_rfl⟩
instance fn_21 : FnI Tryz.prog 21 := ⟨by kernel_rfl⟩
instance fn_22 : FnI Tryz.prog 22 := ⟨by kernel_rfl⟩
instance fn_39 : FnI Tryz.prog 39 := ⟨by kernel_rfl⟩
instance fn_40 : FnI Tryz.prog 40 := ⟨by kernel_rfl⟩
instance fn_41 : FnI Tryz.prog 41 := ⟨by kernel_rfl⟩
instance fn_42 : FnI Tryz.prog 42 := ⟨by kernel_rfl⟩
instance fn_43 : FnI Tryz.prog 43 := ⟨by kernel_rfl⟩
instance fn_44 : FnI Tryz.prog 44 := ⟨by kernel_rfl⟩
instance fn_45 : FnI Tryz.prog 45 := ⟨by kernel_rfl⟩
instance fn_46 : FnI Tryz.prog 46 := ⟨by kernel_rfl⟩
instance fn_47 : FnI Tryz.prog 47 := ⟨by kernel_rfl⟩
instance fn_48 : FnI Tryz.prog 48 := ⟨by kernel_rfl⟩
instance fn_49 : FnI Tryz.prog 49 := ⟨by kernel_rfl⟩
instance fn_50 : FnI Tryz.prog 50 := ⟨by kernel_rfl⟩
instance fn_51 : FnI Tryz.prog 51 := ⟨by kernel_rfl⟩
instance fn_52 : FnI Tryz.prog 52 := ⟨by kernel_rfl⟩
instance fn_53 : FnI Tryz.prog 53 := ⟨by kernel_rfl⟩
instance fn_54 : FnI Tryz.prog 54 := ⟨by kernel_rfl⟩
instance fn_55 : FnI Tryz.prog 55 := ⟨by kernel_rfl⟩
instance fn_56 : FnI Tryz.prog 56 := ⟨by kernel_rfl⟩
instance fn_57 : FnI Tryz.prog 57 := ⟨by kernel_rfl⟩
instance fn_58 : FnI Tryz.prog 58 := ⟨by kernel_rfl⟩
instance fn_59 : FnI Tryz.prog 59 := ⟨by kernel_rfl⟩
instance fn_60 : FnI Tryz.prog 60 := ⟨by kernel_rfl⟩
instance fn_61 : FnI Tryz.prog 61 := ⟨by kernel_rfl⟩
instance fn_62 : FnI Tryz.prog 62 := ⟨by kernel_rfl⟩
instance fn_63 : FnI Tryz.prog 63 := ⟨by kernel_rfl⟩
instance fn_64 : FnI Tryz.prog 64 := ⟨by kernel_rfl⟩
instance fn_65 : FnI Tryz.prog 65 := ⟨by kernel_rfl⟩
instance fn_66 : FnI Tryz.prog 66 := ⟨by kernel_rfl⟩
instance fn_67 : FnI Tryz.prog 67 := ⟨by kernel_rfl⟩
instance fn_68 : FnI Tryz.prog 68 := ⟨by kernel_rfl⟩
instance fn_82 : FnI Tryz.prog 82 := ⟨by kernel_rfl⟩
instance fn_83 : FnI Tryz.prog 83 := ⟨by kernel_rfl⟩
instance fn_84 : FnI Tryz.prog 84 := ⟨by kernel_rfl⟩
instance fn_87 : FnI Tryz.prog 87 := ⟨by kernel_rfl⟩
instance fn_88 : FnI Tryz.prog 88 := ⟨by kernel_rfl⟩
instance fn_89 : FnI Tryz.prog 89 := ⟨by kernel_rfl⟩
instance fn_90 : FnI Tryz.prog 90 := ⟨by kernel_rfl⟩
instance fn_91 : FnI Tryz.prog 91 := ⟨by kernel_rfl⟩
instance fn_92 : FnI Tryz.prog 92 := ⟨by kernel_rfl⟩
instance fn_93 : FnI Tryz.prog 93 := ⟨by kernel_rfl⟩
instance fn_94 : FnI Tryz.prog 94 := ⟨by kernel_rfl⟩
instance fn_95 : FnI Tryz.prog 95 := ⟨by kernel_rfl⟩
instance fn_96 : FnI Tryz.prog 96 := ⟨by kernel_rfl⟩
instance fn_97 : FnI Tryz.prog 97 := ⟨by kernel_rfl⟩
instance fn_98 : FnI Tryz.prog 98 := ⟨by kernel_rfl⟩
instance fn_99 : FnI Tryz.prog 99 := ⟨by kernel_rfl⟩
instance fn_100 : FnI Tryz.prog 100 := ⟨by kernel_rfl⟩
instance fn_101 : FnI Tryz.prog 101 := ⟨by kernel_rfl⟩
instance fn_102 : FnI Tryz.prog 102 := ⟨by kernel_rfl⟩
instance fn_103 : FnI Tryz.prog 103 := ⟨by kernel_rfl⟩
instance fn_104 : FnI Tryz.prog 104 := ⟨by kernel_rfl⟩
instance fn_105 : FnI Tryz.prog 105 := ⟨by kernel_rfl⟩
instance fn_106 : FnI Tryz.prog 106 := ⟨by kernel_rfl⟩
instance fn_107 : FnI Tryz.prog 107 := ⟨by kernel_rfl⟩
instance fn_108 : FnI Tryz.prog 108 := ⟨by kernel_rfl⟩
instance fn_109 : FnI Tryz.prog 109 := ⟨by kernel_rfl⟩
instance fn_110 : FnI Tryz.prog 110 := ⟨by kernel_rfl⟩
instance fn_111 : FnI Tryz.prog 111 := ⟨by kernel_rfl⟩
instance fn_112 : FnI Tryz.prog 112 := ⟨by kernel_rfl⟩
instance fn_113 : FnI Tryz.prog 113 := ⟨by kernel_rfl⟩
instance fn_114 : FnI Tryz.prog 114 := ⟨by kernel_rfl⟩
instance fn_115 : FnI Tryz.prog 115 := ⟨by kernel_rfl⟩
instance fn_116 : FnI Tryz.prog 116 := ⟨by kernel_rfl⟩
instance fn_117 : FnI Tryz.prog 117 := ⟨by kernel_rfl⟩
instance fn_118 : FnI Tryz.prog 118 := ⟨by kernel_rfl⟩
instance fn_119 : FnI Tryz.prog 119 := ⟨by kernel_rfl⟩
instance fn_120 : FnI Tryz.prog 120 := ⟨by kernel_rfl⟩
instance fn_123 : FnI Tryz.prog 123 := ⟨by kernel_rfl⟩
instance fn_124 : FnI Tryz.prog 124 := ⟨by kernel_rfl⟩
instance fn_137 : FnI Tryz.prog 137 := ⟨by kernel_rfl⟩
instance fn_138 : FnI Tryz.prog 138 := ⟨by kernel_rfl⟩
instance fn_139 : FnI Tryz.prog 139 := ⟨by kernel_rfl⟩
instance fn_140 : FnI Tryz.prog 140 := ⟨by kernel_rfl⟩
instance fn_141 : FnI Tryz.prog 141 := ⟨by kernel_rfl⟩
instance fn_143 : FnI Tryz.prog 143 := ⟨by kernel_rfl⟩
instance fn_144 : FnI Tryz.prog 144 := ⟨by kernel_rfl⟩
instance fn_145 : FnI Tryz.prog 145 := ⟨by kernel_rfl⟩
instance fn_146 : FnI Tryz.prog 146 := ⟨by kernel_rfl⟩
instance fn_147 : FnI Tryz.prog 147 := ⟨by kernel_rfl⟩
instance fn_148 : FnI Tryz.prog 148 := ⟨by kernel_rfl⟩
instance fn_149 : FnI Tryz.prog 149 := ⟨by kernel_rfl⟩
instance fn_150 : FnI Tryz.prog 150 := ⟨by kernel_rfl⟩
instance fn_151 : FnI Tryz.prog 151 := ⟨by kernel_rfl⟩
instance fn_152 : FnI Tryz.prog 152 := ⟨by kernel_rfl⟩
instance fn_153 : FnI Tryz.prog 153 := ⟨by kernel_rfl⟩
instance fn_154 : FnI Tryz.prog 154 := ⟨by kernel_rfl⟩
instance fn_155 : FnI Tryz.prog 155 := ⟨by kernel_rfl⟩
instance fn_156 : FnI Tryz.prog 156 := ⟨by kernel_rfl⟩
instance fn_157 : FnI Tryz.prog 157 := ⟨by kernel_rfl⟩
instance fn_158 : FnI Tryz.prog 158 := ⟨by kernel_rfl⟩
instance fn_159 : FnI Tryz.prog 159 := ⟨by kernel_rfl⟩
instance fn_160 : FnI Tryz.prog 160 := ⟨by kernel_rfl⟩
instance fn_161 : FnI Tryz.prog 161 := ⟨by kernel_rfl⟩
instance fn_162 : FnI Tryz.prog 162 := ⟨by kernel_rfl⟩
instance fn_163 : FnI Tryz.prog 163 := ⟨by kernel_rfl⟩
instance fn_164 : FnI Tryz.prog 164 := ⟨by kernel_rfl⟩
instance fn_165 : FnI Tryz.prog 165 := ⟨by kernel_rfl⟩
instance fn_166 : FnI Tryz.prog 166 := ⟨by kernel_rfl⟩
instance fn_168 : FnI Tryz.prog 168 := ⟨by kernel_rfl⟩
instance fn_172 : FnI Tryz.prog 172 := ⟨by kernel_rfl⟩
instance fn_177 : FnI Tryz.prog 177 := ⟨by kernel_rfl⟩
instance fn_178 : FnI Tryz.prog 178 := ⟨by kernel_rfl⟩
instance fn_179 : FnI Tryz.prog 179 := ⟨by kernel_rfl⟩
instance fn_180 : FnI Tryz.prog 180 := ⟨by kernel_rfl⟩
instance fn_181 : FnI Tryz.prog 181 := ⟨by kernel_rfl⟩
instance fn_182 : FnI Tryz.prog 182 := ⟨by kernel_rfl⟩
instance fn_183 : FnI Tryz.prog 183 := ⟨by kernel_rfl⟩
instance fn_184 : FnI Tryz.prog 184 := ⟨by kernel_rfl⟩
instance fn_185 : FnI Tryz.prog 185 := ⟨by kernel_rfl⟩
instance fn_186 : FnI Tryz.prog 186 := ⟨by kernel_rfl⟩
instance fn_187 : FnI Tryz.prog 187 := ⟨by kernel_rfl⟩
instance fn_193 : FnI Tryz.prog 193 := ⟨by kernel_rfl⟩
instance fn_194 : FnI Tryz.prog 194 := ⟨by kernel_rfl⟩
instance fn_195 : FnI Tryz.prog 195 := ⟨by kernel_rfl⟩
instance fn_196 : FnI Tryz.prog 196 := ⟨by kernel_rfl⟩
instance fn_197 : FnI Tryz.prog 197 := ⟨by kernel_rfl⟩
instance fn_198 : FnI Tryz.prog 198 := ⟨by kernel_rfl⟩
instance fn_199 : FnI Tryz.prog 199 := ⟨by kernel_rfl⟩
instance fn_202 : FnI Tryz.prog 202 := ⟨by kernel_rfl⟩
instance fn_203 : FnI Tryz.prog 203 := ⟨by kernel_rfl⟩
instance fn_204 : FnI Tryz.prog 204 := ⟨by kernel_rfl⟩
instance uI_4 : UndI Tryz.prog 4 (.bool) := ⟨@Tryz.underlying4⟩
theorem und_4 : Tryz.prog.underlying 4 = some (.bool) := UndI.h
instance uI_9 : UndI Tryz.prog 9 (.string) := ⟨@Tryz.underlying9⟩
theorem und_9 : Tryz.prog.underlying 9 = some (.string) := UndI.h
instance uI_10 : UndI Tryz.prog 10 (.string) := ⟨@Tryz.underlying10⟩
instance uI_11 : UndI Tryz.prog 11 (.string) := ⟨@Tryz.underlying11⟩
instance uI_22 : UndI Tryz.prog 22 (.slice 5) := ⟨@Tryz.underlying22⟩
theorem und_22 : Tryz.prog.underlying 22 = some (.slice 5) := UndI.h
instance uI_26 : UndI Tryz.prog 26 (.slice 2) := ⟨@Tryz.underlying26⟩
theorem und_26 : Tryz.prog.underlying 26 = some (.slice 2) := UndI.h
instance uI_50 : UndI Tryz.prog 50 (.slice 9) := ⟨@Tryz.underlying50⟩
theorem und_50 : Tryz.prog.underlying 50 = some (.slice 9) := UndI.h
instance uI_84 : UndI Tryz.prog 84 (.slice 87) := ⟨@Tryz.underlying84⟩
theorem und_84 : Tryz.prog.underlying 84 = some (.slice 87) := UndI.h
instance uI_95 : UndI Tryz.prog 95 (.slice 99) := ⟨@Tryz.underlying95⟩
theorem und_95 : Tryz.prog.underlying 95 = some (.slice 99) := UndI.h
instance uI_104 : UndI Tryz.prog 104 (.slice 28) := ⟨@Tryz.underlying104⟩
instance mixI : MixI Tryz.prog := ⟨by kernel_rfl⟩
@[reducible] def cRules (x : M.Rul) : List Ty := [Ty.int x.pits, Ty.int x.seeds, Ty.bool x.stores, Ty.bool x.skip, Ty.bool x.relay, Ty.bool x.feed, Ty.bool x.again, Ty.int x.capture, Ty.int x.slam]
def lRules (xs : List M.Rul) : List Ty := xs.flatMap cRules
theorem lRules_length (xs : List M.Rul) : (lRules xs).length = xs.length * 9 := flat_len cRules 9 (fun _ => rfl) xs
instance : LenL lRules 9 := ⟨lRules_length⟩
set_option maxRecDepth 100000 in
theorem eqs_Rules (a b : M.Rul) (w : World) : (Op.equalIn 10000 25 (.agg #[.int .i64 a.pits, .int .i64 a.seeds, .bool a.stores, .bool a.skip, .bool a.relay, .bool a.feed, .bool a.again, .int .i64 a.capture, .int .i64 a.slam]) (.agg #[.int .i64 b.pits, .int .i64 b.seeds, .bool b.stores, .bool b.skip, .bool b.relay, .bool b.feed, .bool b.again, .int .i64 b.capture, .int .i64 b.slam])).run Tryz.prog w = .ok (decide (a = b)) w := by
  have u2 := Tryz.underlying2
  have u4 := Tryz.underlying4
  have i2 := run_equalIn_int (P := Tryz.prog) (d := 9998) (t := 2) (k := .i64) (k' := .i64) (h := u2)
  have i4 := run_equalIn_bool (P := Tryz.prog) 9998 (t := 4) u4
  rw [show (10000 : Nat) = 9999 + 1 from rfl, run_equalIn_agg w 9999 25 _ _ (by kernel_rfl) (by kernel_rfl)]
  simp only [Program.fieldsOf, Tryz.underlying25]
  go_simp
  by_cases h : a = b
  · subst h; simp
  rw [decide_eq_false h]
  by_cases h0 : a.pits = b.pits
  case neg => rw [if_neg h0]
  rw [if_pos h0]
  by_cases h1 : a.seeds = b.seeds
  case neg => rw [if_neg h1]
  rw [if_pos h1]
  by_cases h2 : a.stores = b.stores
  case neg => rw [if_neg h2]
  rw [if_pos h2]
  by_cases h3 : a.skip = b.skip
  case neg => rw [if_neg h3]
  rw [if_pos h3]
  by_cases h4 : a.relay = b.relay
  case neg => rw [if_neg h4]
  rw [if_pos h4]
  by_cases h5 : a.feed = b.feed
  case neg => rw [if_neg h5]
  rw [if_pos h5]
  by_cases h6 : a.again = b.again
  case neg => rw [if_neg h6]
  rw [if_pos h6]
  by_cases h7 : a.capture = b.capture
  case neg => rw [if_neg h7]
  rw [if_pos h7]
  by_cases h8 : a.slam = b.slam
  case neg => rw [if_neg h8]
  rw [if_pos h8]
  exact absurd (by cases a; cases b; simp_all) h
@[reducible] def cPosition (x : M.Pos) : List Ty := [Ty.ints 2 x.pits, Ty.ints 2 x.stores, Ty.int x.player]
def lPosition (xs : List M.Pos) : List Ty := xs.flatMap cPosition
theorem lPosition_length (xs : List M.Pos) : (lPosition xs).length = xs.length * 3 := flat_len cPosition 3 (fun _ => rfl) xs
instance : LenL lPosition 3 := ⟨lPosition_length⟩
@[reducible] def cSown (x : M.Sw) : List Ty := [Ty.ints 2 x.pits, Ty.ints 2 x.stores, Ty.int x.last, Ty.int x.laps]
def lSown (xs : List M.Sw) : List Ty := xs.flatMap cSown
theorem lSown_length (xs : List M.Sw) : (lSown xs).length = xs.length * 4 := flat_len cSown 4 (fun _ => rfl) xs
instance : LenL lSown 4 := ⟨lSown_length⟩
@[reducible] def csowing (x : M.Sow) : List Ty := [Ty.int x.rules.pits, Ty.int x.rules.seeds, Ty.bool x.rules.stores, Ty.bool x.rules.skip, Ty.bool x.rules.relay, Ty.bool x.rules.feed, Ty.bool x.rules.again, Ty.int x.rules.capture, Ty.int x.rules.slam, Ty.int x.player, Ty.ints 2 x.sown.pits, Ty.ints 2 x.sown.stores, Ty.int x.sown.last, Ty.int x.sown.laps, Ty.ints 2 x.path]
theorem ref_sowing {u : World} {v : Value} {x : M.Sow} (h : (Ty.ref (csowing x)).ok u v) : ∃ b o A10 c10 A11 c11 A14 c14, v = .pointer (some ⟨b, o, none⟩) ∧ RowAt u b o [.int .i64 x.rules.pits, .int .i64 x.rules.seeds, .bool x.rules.stores, .bool x.rules.skip, .bool x.rules.relay, .bool x.rules.feed, .bool x.rules.again, .int .i64 x.rules.capture, .int .i64 x.rules.slam, .int .i64 x.player, .slice A10 x.sown.pits.length c10, .slice A11 x.sown.stores.length c11, .int .i64 x.sown.last, .int .i64 x.sown.laps, .slice A14 x.path.length c14] ∧ (Ty.ints 2 x.sown.pits).ok u (.slice A10 x.sown.pits.length c10) ∧ (Ty.ints 2 x.sown.stores).ok u (.slice A11 x.sown.stores.length c11) ∧ (Ty.ints 2 x.path).ok u (.slice A14 x.path.length c14) ∧ x.sown.pits.length ≤ c10 ∧ c10 ≤ 9223372036854775807 ∧ x.sown.stores.length ≤ c11 ∧ c11 ≤ 9223372036854775807 ∧ x.path.length ≤ c14 ∧ c14 ≤ 9223372036854775807 := by
  obtain ⟨b, o, vs, rfl, h, hr⟩ := h
  obtain ⟨x0, r, rfl, h0, h⟩ := cellsOk_cons h
  obtain ⟨x1, r, rfl, h1, h⟩ := cellsOk_cons h
  obtain ⟨x2, r, rfl, h2, h⟩ := cellsOk_cons h
  obtain ⟨x3, r, rfl, h3, h⟩ := cellsOk_cons h
  obtain ⟨x4, r, rfl, h4, h⟩ := cellsOk_cons h
  obtain ⟨x5, r, rfl, h5, h⟩ := cellsOk_cons h
  obtain ⟨x6, r, rfl, h6, h⟩ := cellsOk_cons h
  obtain ⟨x7, r, rfl, h7, h⟩ := cellsOk_cons h
  obtain ⟨x8, r, rfl, h8, h⟩ := cellsOk_cons h
  obtain ⟨x9, r, rfl, h9, h⟩ := cellsOk_cons h
  obtain ⟨x10, r, rfl, h10, h⟩ := cellsOk_cons h
  obtain ⟨x11, r, rfl, h11, h⟩ := cellsOk_cons h
  obtain ⟨x12, r, rfl, h12, h⟩ := cellsOk_cons h
  obtain ⟨x13, r, rfl, h13, h⟩ := cellsOk_cons h
  obtain ⟨x14, r, rfl, h14, h⟩ := cellsOk_cons h
  obtain rfl := cellsOk_nil h
  obtain rfl : x0 = .int .i64 x.rules.pits := h0
  obtain rfl : x1 = .int .i64 x.rules.seeds := h1
  obtain rfl : x2 = .bool x.rules.stores := h2
  obtain rfl : x3 = .bool x.rules.skip := h3
  obtain rfl : x4 = .bool x.rules.relay := h4
  obtain rfl : x5 = .bool x.rules.feed := h5
  obtain rfl : x6 = .bool x.rules.again := h6
  obtain rfl : x7 = .int .i64 x.rules.capture := h7
  obtain rfl : x8 = .int .i64 x.rules.slam := h8
  obtain rfl : x9 = .int .i64 x.player := h9
  obtain ⟨A10, c10, rfl, b10, d10⟩ := sl_form h10
  obtain ⟨A11, c11, rfl, b11, d11⟩ := sl_form h11
  obtain rfl : x12 = .int .i64 x.sown.last := h12
  obtain rfl : x13 = .int .i64 x.sown.laps := h13
  obtain ⟨A14, c14, rfl, b14, d14⟩ := sl_form h14
  exact ⟨b, o, A10, c10, A11, c11, A14, c14, rfl, hr, h10, h11, h14, b10, d10, b11, d11, b14, d14⟩
def lsowing (xs : List M.Sow) : List Ty := xs.flatMap csowing
theorem lsowing_length (xs : List M.Sow) : (lsowing xs).length = xs.length * 15 := flat_len csowing 15 (fun _ => rfl) xs
instance : LenL lsowing 15 := ⟨lsowing_length⟩
@[reducible] def cResult (x : M.Res) : List Ty := [Ty.int x.move, Ty.int x.gain, Ty.bool x.again, Ty.ints 2 x.next.pits, Ty.ints 2 x.next.stores, Ty.int x.next.player]
def lResult (xs : List M.Res) : List Ty := xs.flatMap cResult
theorem lResult_length (xs : List M.Res) : (lResult xs).length = xs.length * 6 := flat_len cResult 6 (fun _ => rfl) xs
instance : LenL lResult 6 := ⟨lResult_length⟩
theorem elem_Result {u : World} {e c i : Nat} {A : Option Addr} {xs : List M.Res} {x : M.Res} (h : (Ty.sl e 6 xs.length (lResult xs)).ok u (.slice A xs.length c)) (hi : xs[i]? = some x) : ∃ b o A3 c3 A4 c4, elemA 6 (.slice A xs.length c) i = some ⟨b, o, none⟩ ∧ RowAt u b o [.int .i64 x.move, .int .i64 x.gain, .bool x.again, .slice A3 x.next.pits.length c3, .slice A4 x.next.stores.length c4, .int .i64 x.next.player] ∧ (Ty.ints 2 x.next.pits).ok u (.slice A3 x.next.pits.length c3) ∧ (Ty.ints 2 x.next.stores).ok u (.slice A4 x.next.stores.length c4) ∧ x.next.pits.length ≤ c3 ∧ c3 ≤ 9223372036854775807 ∧ x.next.stores.length ≤ c4 ∧ c4 ≤ 9223372036854775807 := by
  obtain ⟨b, o, vs, he, h, hr⟩ := sl_elem h (List.getElem?_eq_some_iff.1 hi).1 rfl
  have e := drop_flat cResult 6 (fun _ => rfl) xs i x hi
  unfold lResult at h
  rw [e] at h
  obtain ⟨x0, r, rfl, h0, h⟩ := cellsOk_cons h
  obtain ⟨x1, r, rfl, h1, h⟩ := cellsOk_cons h
  obtain ⟨x2, r, rfl, h2, h⟩ := cellsOk_cons h
  obtain ⟨x3, r, rfl, h3, h⟩ := cellsOk_cons h
  obtain ⟨x4, r, rfl, h4, h⟩ := cellsOk_cons h
  obtain ⟨x5, r, rfl, h5, h⟩ := cellsOk_cons h
  obtain rfl := cellsOk_nil h
  obtain rfl : x0 = .int .i64 x.move := h0
  obtain rfl : x1 = .int .i64 x.gain := h1
  obtain rfl : x2 = .bool x.again := h2
  obtain ⟨A3, c3, rfl, b3, d3⟩ := sl_form h3
  obtain ⟨A4, c4, rfl, b4, d4⟩ := sl_form h4
  obtain rfl : x5 = .int .i64 x.next.player := h5
  exact ⟨b, o, A3, c3, A4, c4, he, hr, h3, h4, b3, d3, b4, d4⟩
theorem elemv_Result {w : World} {i : Nat} {xs : List M.Res} {x : M.Res} {vs : List Value} (h : cellsOk w (lResult xs) vs) (hi : xs[i]? = some x) : ∃ A3 c3 A4 c4, (vs.drop (0 + i * 6)).take 6 = [.int .i64 x.move, .int .i64 x.gain, .bool x.again, .slice A3 x.next.pits.length c3, .slice A4 x.next.stores.length c4, .int .i64 x.next.player] ∧ x.next.pits.length ≤ c3 ∧ c3 ≤ 9223372036854775807 ∧ x.next.stores.length ≤ c4 ∧ c4 ≤ 9223372036854775807 := by
  rw [Nat.zero_add]
  have h := cellsOk.take 6 (cellsOk.drop (i * 6) h)
  rw [lResult, drop_flat cResult 6 (fun _ => rfl) xs i x hi] at h
  generalize (vs.drop (i * 6)).take 6 = vs at h ⊢
  obtain ⟨x0, r, rfl, h0, h⟩ := cellsOk_cons h
  obtain ⟨x1, r, rfl, h1, h⟩ := cellsOk_cons h
  obtain ⟨x2, r, rfl, h2, h⟩ := cellsOk_cons h
  obtain ⟨x3, r, rfl, h3, h⟩ := cellsOk_cons h
  obtain ⟨x4, r, rfl, h4, h⟩ := cellsOk_cons h
  obtain ⟨x5, r, rfl, h5, h⟩ := cellsOk_cons h
  obtain rfl := cellsOk_nil h
  obtain rfl : x0 = .int .i64 x.move := h0
  obtain rfl : x1 = .int .i64 x.gain := h1
  obtain rfl : x2 = .bool x.again := h2
  obtain ⟨A3, c3, rfl, b3, d3⟩ := sl_form h3
  obtain ⟨A4, c4, rfl, b4, d4⟩ := sl_form h4
  obtain rfl : x5 = .int .i64 x.next.player := h5
  exact ⟨A3, c3, A4, c4, rfl, b3, d3, b4, d4⟩
theorem lResult_snoc (xs : List M.Res) (x : M.Res) : lResult xs ++ cResult x = lResult (xs ++ [x]) := by simp [lResult]
theorem pack_Result {w : World} {x : M.Res} {v1 v2 : Value} {f1 f2 : List Nat} (h1 : (Ty.ints 2 x.next.pits).own w v1 f1) (h2 : (Ty.ints 2 x.next.stores).own w v2 f2) : cellsOwn w (cResult x) [.int .i64 x.move, .int .i64 x.gain, .bool x.again, v1, v2, .int .i64 x.next.player] (f1 ++ f2) :=
  ⟨[], f1 ++ f2, rfl, ⟨rfl, rfl⟩, ⟨[], f1 ++ f2, rfl, ⟨rfl, rfl⟩, ⟨[], f1 ++ f2, rfl, ⟨rfl, rfl⟩, ⟨f1, f2, rfl, h1, ⟨f2, [], (List.append_nil _).symm, h2, ⟨[], [], rfl, ⟨rfl, rfl⟩, rfl⟩⟩⟩⟩⟩⟩
@[reducible] def cResultL (x : M.Res) : List Ty := [Ty.int x.move, Ty.int x.gain, Ty.bool x.again, Ty.any, Ty.any, Ty.any]
def lResultL (xs : List M.Res) : List Ty := xs.flatMap cResultL
theorem lResultL_length (xs : List M.Res) : (lResultL xs).length = xs.length * 6 := flat_len cResultL 6 (fun _ => rfl) xs
instance : LenL lResultL 6 := ⟨lResultL_length⟩
@[reducible] def cOption (x : M.Opt) : List Ty := [Ty.int x.move, Ty.int x.value]
def lOption (xs : List M.Opt) : List Ty := xs.flatMap cOption
theorem lOption_length (xs : List M.Opt) : (lOption xs).length = xs.length * 2 := flat_len cOption 2 (fun _ => rfl) xs
instance : LenL lOption 2 := ⟨lOption_length⟩
theorem elem_Option {u : World} {e c i : Nat} {A : Option Addr} {xs : List M.Opt} {x : M.Opt} (h : (Ty.sl e 2 xs.length (lOption xs)).ok u (.slice A xs.length c)) (hi : xs[i]? = some x) : ∃ b o, elemA 2 (.slice A xs.length c) i = some ⟨b, o, none⟩ ∧ RowAt u b o [.int .i64 x.move, .int .i64 x.value] := by
  obtain ⟨b, o, vs, he, h, hr⟩ := sl_elem h (List.getElem?_eq_some_iff.1 hi).1 rfl
  have e := drop_flat cOption 2 (fun _ => rfl) xs i x hi
  unfold lOption at h
  rw [e] at h
  obtain ⟨x0, r, rfl, h0, h⟩ := cellsOk_cons h
  obtain ⟨x1, r, rfl, h1, h⟩ := cellsOk_cons h
  obtain rfl := cellsOk_nil h
  obtain rfl : x0 = .int .i64 x.move := h0
  obtain rfl : x1 = .int .i64 x.value := h1
  exact ⟨b, o, he, hr⟩
theorem lOption_snoc (xs : List M.Opt) (x : M.Opt) : lOption xs ++ cOption x = lOption (xs ++ [x]) := by simp [lOption]
@[reducible] def cPuzzle (x : M.Puz) : List Ty := [Ty.int x.rules.pits, Ty.int x.rules.seeds, Ty.bool x.rules.stores, Ty.bool x.rules.skip, Ty.bool x.rules.relay, Ty.bool x.rules.feed, Ty.bool x.rules.again, Ty.int x.rules.capture, Ty.int x.rules.slam, Ty.ints 2 x.position.pits, Ty.ints 2 x.position.stores, Ty.int x.position.player, Ty.int x.depth, Ty.int x.move, Ty.int x.value, Ty.int x.margin]
def lPuzzle (xs : List M.Puz) : List Ty := xs.flatMap cPuzzle
theorem lPuzzle_length (xs : List M.Puz) : (lPuzzle xs).length = xs.length * 16 := flat_len cPuzzle 16 (fun _ => rfl) xs
instance : LenL lPuzzle 16 := ⟨lPuzzle_length⟩
@[reducible] def cPositionL (x : M.Pos) : List Ty := [Ty.rx 2 x.pits, Ty.ints 2 x.stores, Ty.int x.player]
def lPositionL (xs : List M.Pos) : List Ty := xs.flatMap cPositionL
theorem lPositionL_length (xs : List M.Pos) : (lPositionL xs).length = xs.length * 3 := flat_len cPositionL 3 (fun _ => rfl) xs
instance : LenL lPositionL 3 := ⟨lPositionL_length⟩
@[reducible] def cGameL (x : M.Gam) : List Ty := [Ty.int x.rules.pits, Ty.int x.rules.seeds, Ty.bool x.rules.stores, Ty.bool x.rules.skip, Ty.bool x.rules.relay, Ty.bool x.rules.feed, Ty.bool x.rules.again, Ty.int x.rules.capture, Ty.int x.rules.slam, Ty.ints 2 x.start.pits, Ty.ints 2 x.start.stores, Ty.int x.start.player, Ty.ro 2 x.moves, Ty.ints 2 x.now.pits, Ty.ints 2 x.now.stores, Ty.int x.now.player, Ty.int x.resigned]
def lGameL (xs : List M.Gam) : List Ty := xs.flatMap cGameL
theorem lGameL_length (xs : List M.Gam) : (lGameL xs).length = xs.length * 17 := flat_len cGameL 17 (fun _ => rfl) xs
instance : LenL lGameL 17 := ⟨lGameL_length⟩
@[reducible] def cGame (x : M.Gam) : List Ty := [Ty.int x.rules.pits, Ty.int x.rules.seeds, Ty.bool x.rules.stores, Ty.bool x.rules.skip, Ty.bool x.rules.relay, Ty.bool x.rules.feed, Ty.bool x.rules.again, Ty.int x.rules.capture, Ty.int x.rules.slam, Ty.ints 2 x.start.pits, Ty.ints 2 x.start.stores, Ty.int x.start.player, Ty.ints 2 x.moves, Ty.ints 2 x.now.pits, Ty.ints 2 x.now.stores, Ty.int x.now.player, Ty.int x.resigned]
def lGame (xs : List M.Gam) : List Ty := xs.flatMap cGame
theorem lGame_length (xs : List M.Gam) : (lGame xs).length = xs.length * 17 := flat_len cGame 17 (fun _ => rfl) xs
instance : LenL lGame 17 := ⟨lGame_length⟩
open Go.RowKit Go.ChangeShapes Go.WideShapes Go.ChangeAt
theorem cell_of {w : World} {b o : Nat} {x : Value} (h : w.cell? ⟨b, o, none⟩ = some x) : Cell w b o x := by
  unfold World.cell? at h
  split at h
  · rename_i c t f hb
    exact ⟨c, t, f, hb, by simpa using h⟩
  all_goals simp at h
section
variable {H : Type} {enc : TypeId × Value → H} {w : World} {spare : Nat → Bool} {held : Bool} {fuel : Nat} {x : DataW H × List MemPlace} {cs : List Value}
end
section
variable {H : Type} {enc : TypeId × Value → H} {w : World} {spare : Nat → Bool} {held : Bool} {fuel : Nat} {x : DataW H × List MemPlace} {cs : List Value}
theorem byte_wf {n : Int} (h : (Lit.int .u8 n).wf = true) : 0 ≤ n ∧ n ≤ 255 := by
  simp only [Lit.wf, Bool.and_eq_true, decide_eq_true_eq] at h
  first | exact h | (obtain ⟨a, b⟩ := h; constructor <;> simp_all [IntKind.min, IntKind.max] <;> omega)
theorem bytes_ok (w : World) : ∀ (l : List Int), (∀ n ∈ l, 0 ≤ n ∧ n ≤ 255) → cellsOk w (List.replicate l.length Ty.byte) (l.map (fun n => .int .u8 n))
  | [], _ => trivial
  | n :: l, h => ⟨⟨n, rfl, h n (by simp)⟩, bytes_ok w l (fun m hm => h m (by simp [hm]))⟩
theorem rd_bytes {P : Program} {t e : TypeId} (ht : P.underlying t = some (.slice e)) (he : P.underlying e = some (.int .u8)) (hc : P.cellsOf e = 1) (h : DataW.trod enc P w 0 spare held fuel t cs = some x) : ∃ n : Nat, cellsOk w [Ty.bytes e n] cs := by
  rcases open_ints ht he hc h with ⟨rfl, _⟩ | ⟨a, len, cap, zs, rfl, _, hl, hm, hz, _, hcell, hwf⟩
  · exact ⟨0, nil_ok, trivial⟩
  · have hlz : len ≤ zs.length := by rw [hz]; split <;> omega
    have hlen : (zs.take len).length = len := by simp; omega
    refine ⟨len, ⟨by simp, some a, cap, (zs.take len).map (fun n => .int .u8 n), rfl, hl, hm, ?_, fun hp => ?_⟩, trivial⟩
    · have := bytes_ok w (zs.take len) (fun n hn => byte_wf (hwf n (List.mem_of_mem_take hn)))
      rwa [hlen] at this
    have hp : 0 < len := by simpa using hp
    obtain ⟨b, off, spot⟩ := a
    have hspot : spot = none := by simpa [Addr.add] using World.cell?_spot (hcell 0 (by omega))
    subst hspot
    refine ⟨b, off, rfl, fun j v hj => ?_⟩
    simp only [List.getElem?_map, Option.map_eq_some_iff] at hj
    obtain ⟨n, hn, rfl⟩ := hj
    rw [List.getElem?_take] at hn
    split at hn
    · rename_i hjl
      have := hcell j (by omega)
      rw [addr_add] at this
      have e : zs.getD j 0 = n := by simp [List.getD, hn]
      rw [e] at this
      exact cell_of this
    · simp at hn
end
section
variable {H : Type} {enc : TypeId × Value → H} {w : World} {spare : Nat → Bool} {held : Bool} {fuel : Nat} {x : DataW H × List MemPlace} {cs : List Value}
end
theorem setL_drop {xs : List Value} {o j : Nat} {v : Value} (h : o ≤ xs.length) : (setL xs (o + j) [v]).drop o = setL (xs.drop o) j [v] := by
  simp only [setL, List.length_singleton, List.append_assoc]
  rw [List.drop_append_of_le_length (by simp; omega), List.drop_take, List.drop_drop]
  rw [show o + j - o = j from by omega, show o + (j + 1) = o + j + 1 from rfl]
section
variable {P : Program} {n lo : Nat} {B : List Nat} {l : Fr} {os : List Own} {u : World} {dst : Option Tmp} {ty : TypeId} {pos : String} {af : Array Edge} {gd : Option (Nat × Bool)}
theorem rx_some {i m c : Nat} {e : TypeId} {A : Option Addr} {vs : List Value} (hi : os[i]? = some (rxO e (.slice A m c) m vs)) (hm : 0 < m) : ∀ w, St lo B u w os → ∃ b o, A = some ⟨b, o, none⟩ := fun w hw => by
  have h : RxRow w e (.slice A m c) m vs := hw.prs _ (List.mem_of_getElem? hi)
  rcases h.2 with ⟨h2, h3⟩ | ⟨g, o, cap, cur, h2, _⟩
  · omega
  · cases h2; exact ⟨g, o, rfl⟩
theorem Mem.rx {i b o c m j : Nat} {e : TypeId} {vs : List Value} {x : Value} (hi : os[i]? = some (rxO e (.slice (some ⟨b, o, none⟩) m c) m vs)) (hx : vs[0 + j * 1]? = some x) : Mem lo B u os fun w => Cell w b (o + j * 1) x := fun w hw => by
  have h : RxRow w e (.slice (some ⟨b, o, none⟩) m c) m vs := hw.prs _ (List.mem_of_getElem? hi)
  rcases h.2 with ⟨h2, h3⟩ | ⟨g, o', cap, cur, h2, hg, h4, h5, h7⟩
  · cases h2
  · cases h2
    refine ⟨cur, e, (0, 0), hg, ?_⟩
    rw [← h7, List.getElem?_take] at hx
    split at hx
    · rw [List.getElem?_drop] at hx
      simpa using hx
    · simp at hx
theorem e_storeRx {x y : Operand} {t e : TypeId} {gg : Bool} {i b o c m j : Nat} {xs xs' : List Value} {v : Value} (ht : tyOf P t = some (gg, 1)) (hx : opd l x = some (.pointer (some ⟨b, o + j * 1, none⟩))) (hi : os[i]? = some (rxO e (.slice (some ⟨b, o, none⟩) m c) m xs)) (hy : opd l y = some v)
    (hv : cellsL v = [v]) (h1 : v.oneCell' = true) (hl : (0 + j * 1) + 1 ≤ xs.length) (hc : setL xs (0 + j * 1) [v] = xs') :
    OpE P n lo B l os u ⟨dst, .store t x y, ty, pos, af, gd⟩ false (fun _ os' u' => os' = os.set i (rxO e (.slice (some ⟨b, o, none⟩) m c) m xs') ∧ u = u') := fun a w ha hw K Q hk => by
  subst hc
  simp only [Nat.zero_add, Nat.mul_one] at hx hl ⊢
  have h0 : RxRow w e (.slice (some ⟨b, o, none⟩) m c) m xs := hw.prs _ (List.mem_of_getElem? hi)
  obtain ⟨hown1, hown2⟩ := h0
  rcases hown2 with ⟨h2, _⟩ | ⟨g', o', cap, cur, h2, hg, h4, h5, h7⟩
  · cases h2
  cases h2
  have hle : xs.length ≤ (cur.toList.drop o).length := by rw [← h7, List.length_take]; omega
  have hle2 : o + xs.length ≤ cur.toList.length := by rw [List.length_drop] at hle; omega
  obtain ⟨w', r1, r2, r3, r4, r5, r6, r7⟩ := run_storeCells_box P b e [v] 0 (o + j) cur.toList w (by simpa using hg) (by simp at hle2 ⊢; omega) (by simpa using h1)
  have hsz := (run_isAgg (P := P) w ht).2
  have hr : (execOp a.eval ⟨dst, .store t x y, ty, pos, af, gd⟩).run P w = .ok .skip w' := by
    simp [execOp, ha.eval hx, ha.eval hy, Instr.storeAt, Instr.sureAddr, storeVar, hsz, cellsL_eq, hv, r1]
  unfold Oper.wp
  rw [hr]
  refine hk _ _ u _ ⟨rfl, rfl⟩ (Up.refl lo u) (hw.upd hi r5 r6 r7 (by omega) (fun k _ hk => r3 k (fun e => hk (by simp [rxO, Value.ownBlock, e]))) (fun k hk => .inl hk) ?_ ?_ (fun k hk _ => hk)) (fun h => by cases h)
  · have h9 := nodup_mem hw.dis (List.mem_of_getElem? hi)
    exact h9
  · refine ⟨by simp only [setL, List.length_append, List.length_take, List.length_drop, List.length_singleton]; omega, .inr ⟨b, o, c, (setL cur.toList (o + j) [v]).toArray, rfl, by simpa using r2, h4, h5, ?_⟩⟩
    rw [List.toList_toArray, setL_drop (by omega)]
    simpa only [Nat.zero_add, Nat.mul_one] using setL_prefix (vs := [v]) h7 hown1.symm hl hle
end
theorem St.releaseB {lo : Nat} {B : List Nat} {u w : World} {os : List Own} (h : St lo B u w os) {i : Nat} {o : Own} (hi : os[i]? = some o) (hB : ∀ k ∈ B, k ∈ (os.eraseIdx i).flatMap (·.fp)) :
    ∃ u', Up lo u u' ∧ St lo B u' w (os.eraseIdx i) ∧ (∀ k ∈ o.fp, u'.heap[k]? = w.heap[k]?) := by
  have hlt : i < os.length := (List.getElem?_eq_some_iff.1 hi).1
  have hpart : ∃ pre post, os = pre ++ o :: post ∧ os.eraseIdx i = pre ++ post := by
    refine ⟨os.take i, os.drop (i + 1), ?_, List.eraseIdx_eq_take_drop_succ ..⟩
    have := (List.getElem?_eq_some_iff.1 hi).2
    rw [← this, ← List.drop_eq_getElem_cons hlt, List.take_append_drop]
  obtain ⟨pre, post, e1, e2⟩ := hpart
  rw [e2] at hB
  have hd := h.dis
  rw [e1] at hd
  simp only [List.flatMap_append, List.flatMap_cons] at hd
  rw [List.nodup_append] at hd
  obtain ⟨d1, d2, d3⟩ := hd
  rw [List.nodup_append] at d2
  obtain ⟨d4, d5, d6⟩ := d2
  have hs : (offW w ((pre ++ post).flatMap (·.fp))).heap.size = w.heap.size := by simp [offW]
  have hsz := h.size
  have hlo := h.lo_
  have mem : ∀ x, x ∈ pre ++ post → x ∈ os := fun x hx => by rw [e1]; simp only [List.mem_append, List.mem_cons] at hx ⊢; rcases hx with hx | hx <;> simp [hx]
  have mem' : ∀ x, x ∈ os → x = o ∨ x ∈ pre ++ post := fun x hx => by
    rw [e1] at hx
    simp only [List.mem_append, List.mem_cons] at hx ⊢
    rcases hx with hx | hx | hx
    · exact .inr (.inl hx)
    · exact .inl hx
    · exact .inr (.inr hx)
  have apart : ∀ k ∈ o.fp, k ∉ (pre ++ post).flatMap (·.fp) := fun k hk hm => by
    rw [List.flatMap_append, List.mem_append] at hm
    rcases hm with hm | hm
    · exact d3 k hm k (List.mem_append_left _ hk) rfl
    · exact d6 k hk k hm rfl
  rw [e2]
  refine ⟨offW w ((pre ++ post).flatMap (·.fp)), ⟨⟨by omega, fun k c t f hk => ?_⟩, fun k hk => ?_, h.os_, h.tape, h.output⟩, ⟨rfl, rfl, rfl, by omega, by omega, fun k hk hn => ?_, fun x hx k hk => ⟨(h.hid x (mem x hx) k hk).1, (h.hid x (mem x hx) k hk).2.1, fun hlt' => ?_⟩, fun x hx => h.prs x (mem x hx), ?_, hB⟩, fun k hk => ?_⟩
  · rw [offW_get, if_neg]
    · exact h.vis.vis k c t f hk
    · intro hm
      obtain ⟨x, hx, hm⟩ := List.mem_flatMap.1 hm
      have := (h.hid x (mem x hx) k hm).2.2 (Array.getElem?_eq_some_iff.1 hk).1
      rw [this] at hk
      simp [hidO] at hk
  · by_cases hm : k ∈ (pre ++ post).flatMap (·.fp)
    · rw [offW_get, if_pos hm, if_pos (by omega)]
      obtain ⟨x, hx, hm⟩ := List.mem_flatMap.1 hm
      exact ((h.hid x (mem x hx) k hm).2.2 (by omega)).symm
    · have nh : ∀ x ∈ os, k ∉ x.fp := fun x hx hk' => by
        rcases mem' x hx with rfl | hx'
        · rcases (h.hid x hx k hk').2.1 with h9 | h9
          · omega
          · exact hm (hB k h9)
        · exact hm (List.mem_flatMap.2 ⟨x, hx', hk'⟩)
      rw [offW_get, if_neg hm]
      exact h.pub k (by omega) nh
  · rw [offW_get, if_neg]
    intro hm
    obtain ⟨x, hx, hm⟩ := List.mem_flatMap.1 hm
    exact hn x hx hm
  · rw [offW_get, if_pos (List.mem_flatMap.2 ⟨x, hx, hk⟩), if_pos (by have := (h.hid x (mem x hx) k hk).1; omega)]
  · rw [List.flatMap_append, List.nodup_append]
    exact ⟨d1, d5, fun a ha b hb e => d3 a ha b (List.mem_append_right _ hb) e⟩
  · rw [offW_get, if_neg (apart k hk)]
theorem Js.pubBox {P : Program} {n lo : Nat} {B : List Nat} {Q : Exit → Act → World → Prop} {cs : List Code} {l : Fr} {os : List Own} {u : World} {i j b bs : Nat} {c c2 : List Value} {T T2 : TypeId} (hi : os[i]? = some (boxO b c T)) (hj : (os.eraseIdx i)[j]? = some (boxO bs c2 T2))
    (k : ∀ u', Up lo u u' → RowAt u' b 0 c → Js P n lo B Q cs l (os.eraseIdx i) u') (hB : B = [bs] := by rfl) : Js P n lo B Q cs l os u := fun a w ha hw => by
  obtain ⟨u', h1, h2, h3⟩ := hw.releaseB hi (fun k hk => by
    rw [hB, List.mem_singleton] at hk
    subst hk
    exact List.mem_flatMap.2 ⟨_, List.mem_of_getElem? hj, by simp [boxO]⟩)
  have hp : w.heap[b]? = some (.cells c.toArray T (0, 0)) := hw.prs _ (List.mem_of_getElem? hi)
  refine k u' h1 (fun m x hm => ⟨c.toArray, T, (0, 0), by rw [h3 b (by simp [boxO])]; exact hp, ?_⟩) a w ha h2
  simpa using hm
inductive RowX : List Own → TypeId → Value → List Int → Prop
  | a {e : TypeId} {v : Value} {m : Nat} {xs : List Int} {r : List Own} : RowX (rxO e v m (ints_ xs) :: r) e v xs
  | s {e : TypeId} {v : Value} {xs : List Int} {q : Own} {r : List Own} (h : RowX r e v xs) : RowX (q :: r) e v xs
theorem RowX.get {os : List Own} {e : TypeId} {v : Value} {xs : List Int} (h : RowX os e v xs) {w : World} : (∀ o ∈ os, o.pr w) → (Ty.ints e xs).ok w v := by
  induction h with
  | a => intro hp; exact ints_rxok (hp _ List.mem_cons_self)
  | s _ ih => intro hp; exact ih fun q hq => hp q (by simp [hq])
theorem okx_ {lo : Nat} {B : List Nat} {os : List Own} {u w : World} {T : Ty} {v : Value} (hw : St lo B u w os) (h : St lo B u w os → T.ok w v := by
    intro hw
    repeat' (first
    | exact ok_i | exact ok_b | with_reducible apply ok_c | with_reducible exact ok_n | with_reducible apply ok_agg | exact ok_s | exact Ty.mono _ (by assumption) vis_ | exact nil_ok | (refine RowX.get ?_ (St.prs hw); (repeat (first | with_reducible exact RowX.a | with_reducible apply RowX.s)); done) | (refine Row1.get ?_ (St.prs hw); (repeat (first | with_reducible exact Row1.a | with_reducible exact Row1.b | with_reducible apply Row1.s)); done) | (refine Own1.get ?_ (St.prs hw); (repeat (first | ((with_reducible apply Own1.a); (repeat (first | with_reducible exact Cel.z | with_reducible apply Cel.s)); done) | with_reducible apply Own1.s)); done) | (refine ok_ofro (Own1.get ?_ (St.prs hw)); (repeat (first | ((with_reducible apply Own1.a); (repeat (first | with_reducible exact Cel.z | with_reducible apply Cel.s)); done) | with_reducible apply Own1.s)); done) | apply ok_ro
    | ((with_reducible apply ok_refB (hw := hw)); (repeat (first | with_reducible exact LdB.z | with_reducible apply LdB.s))) | (apply ok_refP; assumption; exact vis_; rfl; exact off_; exact nl) | exact rfl | assumption | fail)) : T.ok w v := h hw
end Go.Proofs.YtjdhgkdimanabaaGreatDoor
namespace Go.Proofs.YtjdhgkdimanabaaGreatDoor.M
theorem store_add {ss : List Int} {pl a b : Int} (h : ss.length = 2) (hp : pl = 0 ∨ pl = 1) : setI (setI ss pl (getI ss pl + a)) pl (getI (setI ss pl (getI ss pl + a)) pl + b) = setI ss pl (getI ss pl + (a + b)) := by
  rw [getI_setI_same (by omega) (by omega), setI_setI, Int.add_assoc]
theorem store_same {ss : List Int} {pl : Int} (h : ss.length = 2) (hp : pl = 0 ∨ pl = 1) : setI ss pl (getI ss pl + 0) = ss := by
  match ss, h with
  | [a, b], _ => rcases hp with rfl | rfl <;> simp [setI, getI, nth]
theorem sow_st (r : Rul) {pl : Int} (hp : pl = 0 ∨ pl = 1) (frm : Int) : ∀ (n : Nat) (place : Int) (ps ss path : List Int), ss.length = 2 →
    ∃ t : Int, 0 ≤ t ∧ (sow r pl frm n place ps ss path).2.2.1 = setI ss pl (getI ss pl + t)
  | 0, place, ps, ss, path, h => ⟨0, by omega, by rw [sow]; exact (store_same h hp).symm⟩
  | n + 1, place, ps, ss, path, h => by
    rw [sow]; split
    · obtain ⟨t, h0, e⟩ := sow_st r hp frm n (nxt r pl frm place) ps (setI ss pl (getI ss pl + 1)) (path ++ [nxt r pl frm place]) (by rw [setI_length, h])
      exact ⟨1 + t, by omega, by rw [e, store_add h hp]⟩
    · exact sow_st r hp frm n _ _ ss _ h
theorem mv_st (r : Rul) {pl : Int} (hp : pl = 0 ∨ pl = 1) : ∀ (n : Nat) (frm : Int) (s : Sw) (path : List Int) (x : Sw × List Int), s.stores.length = 2 → mv r pl n frm s path = some x →
    ∃ t : Int, 0 ≤ t ∧ x.1.stores = setI s.stores pl (getI s.stores pl + t)
  | 0, frm, s, path, x, h2, h => by simp [mv] at h
  | n + 1, frm, s, path, x, h2, h => by
    obtain ⟨t, h0, e⟩ := sow_st r hp frm (getI s.pits frm).toNat frm (setI s.pits frm 0) s.stores path h2
    have e : (lap r pl frm s path).1.stores = setI s.stores pl (getI s.stores pl + t) := e
    rw [mv] at h
    split at h
    · obtain ⟨t2, h3, e2⟩ := mv_st r hp n _ _ _ x (by rw [e, setI_length, h2]) h
      exact ⟨t + t2, by omega, by rw [e2, e, store_add h2 hp]⟩
    · injection h with h; subst h; exact ⟨t, h0, e⟩
theorem sowMove_st {r : Rul} {p : Pos} {move : Int} (h : (sowMove r p move).1 = 0) : ∃ t : Int, 0 ≤ t ∧ (sowMove r p move).2.1.stores = setI p.stores p.player (getI p.stores p.player + t) := by
  obtain ⟨ho, _⟩ := sowMove_ok h
  obtain ⟨r1, r2, g1, g2, g3, g4, g5⟩ := okP_bd ho
  unfold sowMove at *
  by_cases hc : sowCode r p move = 0
  case neg => rw [if_pos hc] at h; exact absurd h hc
  rw [if_neg (by simpa using hc)] at h ⊢
  cases hmv : mv r p.player 100 (p.player * r.pits + move) ⟨p.pits, p.stores, 0, 0⟩ [] with
  | none => rw [hmv] at h; simp at h
  | some x => exact mv_st r g5 100 _ ⟨p.pits, p.stores, 0, 0⟩ [] x g2 hmv
theorem gain_of {r : Rul} {p : Pos} {move : Int} (h : (make r p move).2 = 0) : 0 ≤ (make r p move).1.gain ∧ isum (make r p move).1.next.pits + (make r p move).1.gain = isum p.pits := by
  have h1 := make_code (r := r) (p := p) (move := move)
  rw [h] at h1
  have hd := h1.symm
  obtain ⟨h2, h3⟩ := done_ok hd
  obtain ⟨hok, _, _, hG, _⟩ := sowMove_ok h2
  obtain ⟨r1, r2, g1, g2, g3, g4, g5⟩ := okP_bd hok
  obtain ⟨t, t0, et⟩ := sowMove_st h2
  have hs := (make_ok h).2.2.2.2.2
  have hc : 0 ≤ isum ((captured r (sowMove r p move).2.1 p.player).map (getI (sowMove r p move).2.1.pits)) := nn_isum fun x hx => by
    obtain ⟨k, _, rfl⟩ := List.mem_map.1 hx
    exact (hG.pit k).1
  have e2 : (done r p move).1.stores = setI p.stores p.player (getI p.stores p.player + (t + isum ((captured r (sowMove r p move).2.1 p.player).map (getI (sowMove r p move).2.1.pits)))) := by
    rw [h3]
    show setI (sowMove r p move).2.1.stores p.player (getI (sowMove r p move).2.1.stores p.player + _) = _
    rw [et, store_add g2 g5]
  rw [make_yes hd] at hs ⊢
  simp only at hs ⊢
  have e3 : (resOf r p move (done r p move).1).gain = t + isum ((captured r (sowMove r p move).2.1 p.player).map (getI (sowMove r p move).2.1.pits)) := by
    show getI (done r p move).1.stores p.player - getI p.stores p.player = _
    rw [e2, getI_setI_same (by omega) (by omega)]; omega
  have e4 : isum (resOf r p move (done r p move).1).next.stores = isum p.stores + (resOf r p move (done r p move).1).gain := by
    rw [e3]
    show isum (done r p move).1.stores = _
    rw [e2, isum_setI (by omega) (by omega)]; omega
  exact ⟨by rw [e3]; omega, by omega⟩
theorem results_pits {r : Rul} {p : Pos} {x : Res} (h : x ∈ results r p) : 0 ≤ x.gain ∧ isum x.next.pits + x.gain = isum p.pits := by
  obtain ⟨m, hm, rfl⟩ := results_fact h
  exact gain_of hm
theorem endV_pits {r : Rul} {p : Pos} (h : okP r p = true) : -isum p.pits ≤ endV r p ∧ endV r p ≤ isum p.pits := by
  obtain ⟨r1, r2, g1, g2, g3, g4, g5⟩ := okP_bd h
  have hsa := side_all (r := r) (ps := p.pits) (by omega) g1
  have a := side_bd g3 r2 p.player
  have b := side_bd g3 r2 (1 - p.player)
  unfold endV
  rcases g5 with e | e
  · rw [e] at a b ⊢; rw [show (1 : Int) - 0 = 1 from rfl] at *; omega
  · rw [e] at a b ⊢; rw [show (1 : Int) - 1 = 0 from rfl] at *; omega
theorem val_pits {r : Rul} : ∀ (d : Nat) (p : Pos), okP r p = true → -isum p.pits ≤ val r d p ∧ val r d p ≤ isum p.pits
  | 0, p, h => by
    have := endV_pits h
    have := nn_isum (nn_of_ok (okP_bd h).2.2.2.2.1)
    rw [val]; split <;> omega
  | d + 1, p, h => by
    have := endV_pits h
    have := nn_isum (nn_of_ok (okP_bd h).2.2.2.2.1)
    rw [val]; split
    · omega
    · refine bestF_bd _ _ _ (by omega) (by omega) (fun v hv => ?_)
      obtain ⟨x, hx, rfl⟩ := List.mem_map.1 hv
      have h1 := val_pits d x.next (results_ok hx)
      have h2 := results_pits hx
      unfold moveV; split <;> omega
theorem pits_96 {r : Rul} {p : Pos} (h : okP r p = true) : 0 ≤ isum p.pits ∧ isum p.pits ≤ 96 := by
  obtain ⟨r1, r2, g1, g2, g3, g4, g5⟩ := okP_bd h
  have a := nn_isum (nn_of_ok g3)
  have b := nn_isum (nn_of_ok g4)
  have := okP_sum h
  omega
theorem opts_96 {r : Rul} {p : Pos} {depth : Int} (h : okP r p = true) {o : Opt} (ho : o ∈ opts r p depth) : -96 ≤ o.value ∧ o.value ≤ 96 := by
  obtain ⟨x, hx, rfl⟩ := List.mem_map.1 ho
  have h1 := val_pits (depth - 1).toNat x.next (results_ok hx)
  have h2 := results_pits hx
  have h3 := pits_96 h
  show -96 ≤ moveV x _ ∧ moveV x _ ≤ 96
  unfold moveV; split <;> omega
theorem bOptF_ge : ∀ (l : List Opt) (b : Opt), b.value ≤ (bOptF b l).value ∧ ∀ o ∈ l, o.value ≤ (bOptF b l).value
  | [], b => ⟨Int.le_refl _, fun o h => by simp at h⟩
  | a :: l, b => by
    rw [bOptF]
    obtain ⟨h1, h2⟩ := bOptF_ge l (if b.value < a.value then a else b)
    have h3 : b.value ≤ (if b.value < a.value then a else b).value ∧ a.value ≤ (if b.value < a.value then a else b).value := by split <;> omega
    refine ⟨by omega, fun o ho => ?_⟩
    rcases List.mem_cons.1 ho with rfl | ho
    · omega
    · exact h2 o ho
theorem bOpt_ge {l : List Opt} {o : Opt} (h : o ∈ l) : o.value ≤ (bOpt l).value := by
  cases l with
  | nil => simp at h
  | cons a t =>
    have := bOptF_ge t a
    show o.value ≤ (bOptF a t).value
    rcases List.mem_cons.1 h with rfl | h
    · exact this.1
    · exact this.2 o h
theorem second_ge (m : Int) : ∀ (l : List Opt) (s : Int), s ≤ second m s l ∧ ∀ o ∈ l, o.move ≠ m → o.value ≤ second m s l
  | [], s => ⟨Int.le_refl _, fun o h => by simp at h⟩
  | a :: l, s => by
    rw [second]
    obtain ⟨h1, h2⟩ := second_ge m l (if a.move = m then s else if s < a.value then a.value else s)
    have h3 : s ≤ (if a.move = m then s else if s < a.value then a.value else s) ∧ (a.move ≠ m → a.value ≤ (if a.move = m then s else if s < a.value then a.value else s)) := by
      by_cases e : a.move = m
      · rw [if_pos e]; exact ⟨Int.le_refl _, fun h => absurd e h⟩
      · rw [if_neg e]; split <;> (refine ⟨by omega, fun _ => by omega⟩)
    refine ⟨by omega, fun o ho hm => ?_⟩
    rcases List.mem_cons.1 ho with rfl | ho
    · have := h3.2 hm; omega
    · exact h2 o ho hm
theorem second_le (m : Int) {B : Int} : ∀ (l : List Opt) (s : Int), s ≤ B → (∀ o ∈ l, o.move ≠ m → o.value ≤ B) → second m s l ≤ B
  | [], s, h, _ => h
  | a :: l, s, h, hl => by
    rw [second]
    refine second_le m l _ ?_ (fun o ho => hl o (by simp [ho]))
    by_cases e : a.move = m
    · rw [if_pos e]; exact h
    · rw [if_neg e]; have := hl a (by simp) e; split <;> omega
def leastL (v m : Int) (s : Int) : List Opt → Int
  | [] => s
  | o :: l => leastL v m (if o.move = m then s else if v - o.value < s then v - o.value else s) l
theorem least_second (v m : Int) : ∀ (l : List Opt) (s t : Int), s = v - t → leastL v m s l = v - second m t l
  | [], s, t, h => h
  | a :: l, s, t, h => by
    rw [leastL, second]
    refine least_second v m l _ _ ?_
    by_cases e : a.move = m
    · rw [if_pos e, if_pos e]; exact h
    · rw [if_neg e, if_neg e]; split <;> split <;> omega
theorem second_start (m : Int) : ∀ (l : List Opt) (s t : Int), (∃ o ∈ l, o.move ≠ m ∧ s ≤ o.value ∧ t ≤ o.value) → second m s l = second m t l
  | [], s, t, h => by obtain ⟨o, ho, _⟩ := h; simp at ho
  | a :: l, s, t, ⟨o, ho, hm, h1, h2⟩ => by
    rw [second, second]
    by_cases e : a.move = m
    · rw [if_pos e, if_pos e]
      refine second_start m l s t ⟨o, ?_, hm, h1, h2⟩
      rcases List.mem_cons.1 ho with rfl | ho
      · exact absurd e hm
      · exact ho
    · rw [if_neg e, if_neg e]
      rcases List.mem_cons.1 ho with rfl | ho
      · congr 1; split <;> split <;> omega
      · by_cases h3 : s ≤ a.value ∧ t ≤ a.value
        · congr 1; split <;> split <;> omega
        · refine second_start m l _ _ ⟨o, ho, hm, ?_, ?_⟩ <;> split <;> omega
theorem opts_moves (r : Rul) (p : Pos) (depth : Int) : (opts r p depth).map (·.move) = (results r p).map (·.move) := by
  unfold opts; rw [List.map_map]; rfl
theorem results_rise (r : Rul) (p : Pos) : ∀ n : Nat, (resultsTo r p n).Pairwise fun a b => a.move < b.move
  | 0 => by rw [resultsTo]; exact List.Pairwise.nil
  | n + 1 => by
    rw [resultsTo]
    refine List.pairwise_append.2 ⟨results_rise r p n, ?_, fun a ha b hb => ?_⟩
    · split <;> simp
    · split at hb
      · rename_i hz
        rw [List.mem_singleton.1 hb]
        obtain ⟨m, hm, hz2, rfl⟩ := resultsTo_mem.1 ha
        rw [(make_ok hz).2.2.2.2.1, (make_ok hz2).2.2.2.2.1]; omega
      · simp at hb
theorem opts_nodup {r : Rul} {p : Pos} {depth : Int} {a b : Opt} (ha : a ∈ opts r p depth) (hb : b ∈ opts r p depth) (h : a.move = b.move) : a = b := by
  obtain ⟨x, hx, rfl⟩ := List.mem_map.1 ha
  obtain ⟨y, hy, rfl⟩ := List.mem_map.1 hb
  obtain ⟨m, hm, rfl⟩ := results_fact hx
  obtain ⟨n, hn, rfl⟩ := results_fact hy
  have e1 := (make_ok hm).2.2.2.2.1
  have e2 := (make_ok hn).2.2.2.2.1
  have h : (make r p m).1.move = (make r p n).1.move := h
  have : m = n := by omega
  subst this; rfl
structure Puzzled (r : Rul) (p : Pos) (depth : Int) : Prop where
  ok : okZ (puz r p depth).1 = true
  pr : (puz r p depth).1.rules = r
  pp : (puz r p depth).1.position = p
  pd : (puz r p depth).1.depth = depth
  two : 2 ≤ (results r p).length
  mar : 1 ≤ (puz r p depth).1.margin
  loss : ∀ x ∈ results r p, (ans (puz r p depth).1 x.move).2 = 0 ∧ 0 ≤ (ans (puz r p depth).1 x.move).1 ∧ (ans (puz r p depth).1 x.move).1 ≤ 200 ∧ ((ans (puz r p depth).1 x.move).1 = 0 ↔ x.move = (puz r p depth).1.move)
  sol : ∃ t, sol (puz r p depth).1 = (puz r p depth).1.move :: t
  solc : solC (puz r p depth).1 = 0
def leastA (z : Puz) (s : Int) : List Res → Int
  | [] => s
  | x :: l => leastA z (if x.move = z.move then s else if (ans z x.move).1 < s then (ans z x.move).1 else s) l
theorem puz_parts {r : Rul} {p : Pos} {depth : Int} (h : (puz r p depth).2 = 0) : optsC r p depth = 0 ∧ ¬ (opts r p depth).length < 2 ∧ ¬ second (bOpt (opts r p depth)).move (-1000) (opts r p depth) = (bOpt (opts r p depth)).value := by
  by_cases h1 : optsC r p depth = 0
  case neg => rw [puz_c h1] at h; exact absurd h h1
  by_cases h2 : (opts r p depth).length < 2
  · rw [puz_2 h1 h2] at h; simp at h
  by_cases h3 : second (bOpt (opts r p depth)).move (-1000) (opts r p depth) = (bOpt (opts r p depth)).value
  · rw [puz_6 h1 h2 h3] at h; simp at h
  exact ⟨h1, h2, h3⟩
theorem ans_opt {r : Rul} {p : Pos} {depth : Int} (h : (puz r p depth).2 = 0) (hz : okZ (puz r p depth).1 = true) {x : Res} (hx : x ∈ results r p) : ans (puz r p depth).1 x.move = ((bOpt (opts r p depth)).value - (optOf r (depth - 1).toNat x).value, 0) := by
  obtain ⟨h1, h2, h3⟩ := puz_parts h
  have e := puz_0 h1 h2 h3
  obtain ⟨m, hm, rfl⟩ := results_fact hx
  have em := (make_ok hm).2.2.2.2.1
  have e1 : (puz r p depth).1.rules = r := by rw [e]
  have e2 : (puz r p depth).1.position = p := by rw [e]
  have e3 : (puz r p depth).1.depth = depth := by rw [e]
  have e4 : (puz r p depth).1.value = (bOpt (opts r p depth)).value := by rw [e]
  rw [em, ans_0 hz (by rw [e1, e2]; exact hm), e1, e2, e3, e4]; rfl
theorem puzzled {r : Rul} {p : Pos} {depth : Int} (h : (puz r p depth).2 = 0) : Puzzled r p depth ∧ leastA (puz r p depth).1 1000 (results r p) = (puz r p depth).1.margin := by
  obtain ⟨h1, h2, h3⟩ := puz_parts h
  have e := puz_0 h1 h2 h3
  have ho := optsC_ok h1
  have e1 : (puz r p depth).1.rules = r := by rw [e]
  have e2 : (puz r p depth).1.position = p := by rw [e]
  have e3 : (puz r p depth).1.depth = depth := by rw [e]
  have e4 : (puz r p depth).1.move = (bOpt (opts r p depth)).move := by rw [e]
  have e5 : (puz r p depth).1.margin = (bOpt (opts r p depth)).value - second (bOpt (opts r p depth)).move (-1000) (opts r p depth) := by rw [e]
  have hz : okZ (puz r p depth).1 = true := by
    unfold okZ
    rw [e1, e2, e3, h]
    simp [samez, sameP_true]
  have hl : (results r p).length = (opts r p depth).length := (opts_len r p depth).symm
  have hb := bOpt_mem (l := opts r p depth) (by omega)
  have hb96 := opts_96 ho.1 hb
  have hsec : second (bOpt (opts r p depth)).move (-1000) (opts r p depth) ≤ (bOpt (opts r p depth)).value := second_le _ _ _ (by omega) (fun o ho _ => bOpt_ge ho)
  -- the others are worse
  have worse : ∀ o ∈ opts r p depth, o.move ≠ (bOpt (opts r p depth)).move → o.value < (bOpt (opts r p depth)).value := fun o ho hm => by
    have := (second_ge (bOpt (opts r p depth)).move (opts r p depth) (-1000)).2 o ho hm
    omega
  refine ⟨⟨hz, e1, e2, e3, by omega, by rw [e5]; omega, fun x hx => ?_, ?_, ?_⟩, ?_⟩
  · rw [ans_opt h hz hx]
    have hm : optOf r (depth - 1).toNat x ∈ opts r p depth := List.mem_map.2 ⟨x, hx, rfl⟩
    have hv := bOpt_ge hm
    have hx96 := opts_96 ho.1 hm
    refine ⟨rfl, by simp only; omega, by simp only; omega, ?_⟩
    rw [e4]
    constructor
    · intro h0
      refine Classical.byContradiction fun hn => ?_
      have := worse _ hm hn
      simp only at h0; omega
    · intro h0
      have := opts_nodup hm hb h0
      rw [this]; simp
  · have hs : srchC (puz r p depth).1.rules (puz r p depth).1.position (puz r p depth).1.depth = 0 := by rw [e1, e2, e3]; exact ho.2.2.2.2
    rw [sol_yes hz, lineR_yes hs, e1, e2, e3, e4]
    have e6 : depth.toNat = (depth - 1).toNat + 1 := by omega
    have e7 : (((depth - 1).toNat + 1 : Nat) : Int) = depth := by omega
    rw [e6, lineT, if_neg (by omega), e7]
    exact ⟨_, rfl⟩
  · rw [solC_yes hz, e1, e2, e3]; exact ho.2.2.2.2
  · have key : ∀ (l : List Res) (s : Int), (∀ x ∈ l, x ∈ results r p) → leastA (puz r p depth).1 s l = leastL (bOpt (opts r p depth)).value (bOpt (opts r p depth)).move s (l.map (optOf r (depth - 1).toNat)) := by
      intro l
      induction l with
      | nil => intro s _; rfl
      | cons x l ih =>
        intro s hl
        rw [leastA, List.map_cons, leastL, ih _ (fun y hy => hl y (by simp [hy])), ans_opt h hz (hl x (by simp)), e4]
        rfl
    rw [key _ _ (fun x hx => hx), e5]
    show leastL _ _ 1000 (opts r p depth) = _
    have hother : ∃ o ∈ opts r p depth, o.move ≠ (bOpt (opts r p depth)).move ∧ -1000 ≤ o.value ∧ (bOpt (opts r p depth)).value - 1000 ≤ o.value := by
      have hlt : 1 < (opts r p depth).length := by omega
      have m0 := List.getElem_mem (l := opts r p depth) (n := 0) (by omega)
      have m1 := List.getElem_mem (l := opts r p depth) (n := 1) hlt
      by_cases q : (opts r p depth)[0].move = (bOpt (opts r p depth)).move
      · refine ⟨_, m1, fun q1 => ?_, by have := opts_96 ho.1 m1; omega, by have := opts_96 ho.1 m1; omega⟩
        have hri : ((opts r p depth).map (·.move)).Pairwise (· < ·) := by
          rw [opts_moves, List.pairwise_map]; exact results_rise r p _
        have := List.pairwise_iff_getElem.1 hri 0 1 (by rw [List.length_map]; omega) (by rw [List.length_map]; omega) (by omega)
        rw [List.getElem_map, List.getElem_map] at this
        omega
      · exact ⟨_, m0, q, by have := opts_96 ho.1 m0; omega, by have := opts_96 ho.1 m0; omega⟩
    rw [least_second _ _ _ 1000 ((bOpt (opts r p depth)).value - 1000) (by omega), second_start _ _ _ (-1000) ?_]
    obtain ⟨o, a, b, c, d⟩ := hother
    exact ⟨o, a, b, d, c⟩
theorem place_bd {r : Rul} {p : Pos} {m : Int} (h : okP r p = true) (h0 : 0 ≤ m) (h1 : m ≤ r.pits - 1) : 0 ≤ p.player * r.pits ∧ p.player * r.pits ≤ 8 ∧ 0 ≤ p.player * r.pits + m ∧ p.player * r.pits + m < (p.pits.length : Int) := by
  obtain ⟨g1, g2, g3, g4, g5, g6, g7⟩ := okP_bd h
  rw [g3]
  rcases g7 with e | e <;> rw [e] <;> omega
def joinN (l : List Int) : Nat → List UInt8
  | 0 => []
  | k + 1 => (if 0 < k then joinN l k ++ [44] else joinN l k) ++ dec (nth l k)
def joinT (l : List Int) : List UInt8 := joinN l l.length
theorem joinN_len (l : List Int) : ∀ k : Nat, (joinN l k).length ≤ 22 * k
  | 0 => by simp [joinN]
  | k + 1 => by
    have h1 := joinN_len l k; have h2 := dec_len (nth l k)
    rw [joinN]; split <;> simp only [List.length_append, List.length_cons, List.length_nil] <;> omega
theorem joinN_p {l : List Int} {o : List UInt8} {k : Nat} (h : o = joinN l k) (hk : 0 < k) : (o ++ [44]) ++ dec (nth l k) = joinN l (k + 1) := by rw [joinN, if_pos hk, h]
theorem joinN_z {l : List Int} {o : List UInt8} {k : Nat} (h : o = joinN l k) (hk : ¬ 0 < k) : o ++ dec (nth l k) = joinN l (k + 1) := by rw [joinN, if_neg hk, h]
theorem joinN_big {l : List Int} {o : List UInt8} {k : Nat} (h : o = joinN l k) (hk : k ≤ 4194304) : o.length ≤ 92274688 := by rw [h]; have := joinN_len l k; omega
theorem joinN_e {l : List Int} {o : List UInt8} {k : Nat} (h : o = joinN l k) (hk : l.length ≤ k) (hk2 : k ≤ l.length) : o = joinT l := by rw [h, joinT, Nat.le_antisymm hk hk2]
theorem joinT_len (l : List Int) : (joinT l).length ≤ 22 * l.length := joinN_len l _
def Rng (l : List Int) : Prop := ∀ a ∈ l, -9223372036854775808 ≤ a ∧ a ≤ 9223372036854775807
theorem Rng.nth {l : List Int} (h : Rng l) (k : Nat) : -9223372036854775808 ≤ nth l k ∧ M.nth l k ≤ 9223372036854775807 := by
  by_cases hk : k < l.length
  · exact h _ (nth_mem hk)
  · simp [M.nth, List.getD, List.getElem?_eq_none (Nat.le_of_not_lt hk)]
theorem Rng.ok {l : List Int} (h : allOk l = true) : Rng l := fun a ha => by
  unfold allOk at h; rw [List.all_eq_true] at h
  have := betw_iff.1 (h _ ha); omega
theorem Rng.take {l : List Int} (h : Rng l) (k : Nat) : Rng (l.take k) := fun a ha => h a (List.mem_of_mem_take ha)
theorem Rng.drop {l : List Int} (h : Rng l) (k : Nat) : Rng (l.drop k) := fun a ha => h a (List.mem_of_mem_drop ha)
def posText (p : Pos) : List UInt8 := dec p.player ++ [32] ++ joinT (p.pits.take (p.pits.length / 2)) ++ [47] ++ joinT (p.pits.drop (p.pits.length / 2)) ++ [32] ++ joinT p.stores
theorem posText_len {p : Pos} (h1 : p.pits.length ≤ 16) (h2 : p.stores.length ≤ 2) : (posText p).length ≤ 1000 := by
  have a := dec_len p.player
  have b := joinT_len (p.pits.take (p.pits.length / 2)); have c := joinT_len (p.pits.drop (p.pits.length / 2)); have d := joinT_len p.stores
  rw [List.length_take] at b; rw [List.length_drop] at c
  unfold posText
  simp only [List.length_append, List.length_cons, List.length_nil]; omega
def posTextR (r : Rul) (p : Pos) : List UInt8 := if okP r p = true then posText p else []
theorem posTextR_yes {r : Rul} {p : Pos} (h : okP r p = true) : posTextR r p = posText p := by unfold posTextR; rw [if_pos h]
theorem posTextR_no {r : Rul} {p : Pos} (h : okP r p = false) : posTextR r p = [] := by unfold posTextR; rw [if_neg (by simp [h])]
theorem half {r : Rul} {p : Pos} (h : okP r p = true) : r.pits.toNat = p.pits.length / 2 := by have := okP_bd h; omega
def puzText (z : Puz) : List UInt8 := if okZ z = true then posText z.position ++ [32, 100, 101, 112, 116, 104, 32] ++ dec z.depth else []
theorem puzText_yes {z : Puz} (h : okZ z = true) : puzText z = posText z.position ++ [32, 100, 101, 112, 116, 104, 32] ++ dec z.depth := by unfold puzText; rw [if_pos h]
theorem puzText_no {z : Puz} (h : okZ z = false) : puzText z = [] := by unfold puzText; rw [if_neg (by simp [h])]
theorem second_bd {m : Int} {lo hi : Int} : ∀ (l : List Opt) (s : Int), lo ≤ s → s ≤ hi → (∀ o ∈ l, lo ≤ o.value ∧ o.value ≤ hi) → lo ≤ second m s l ∧ second m s l ≤ hi
  | [], s, h1, h2, _ => by rw [second]; exact ⟨h1, h2⟩
  | o :: l, s, h1, h2, h => by
    have ho := h o (List.mem_cons_self)
    rw [second]; apply second_bd l
    · split <;> (try split) <;> omega
    · split <;> (try split) <;> omega
    · exact fun o' ho' => h o' (List.mem_cons_of_mem _ ho')
theorem okZ_more {z : Puz} (h : okZ z = true) : (make z.rules z.position z.move).2 = 0 ∧ -4000 ≤ z.margin ∧ z.margin ≤ 4000 ∧ 0 ≤ z.move ∧ z.move ≤ 8 := by
  obtain ⟨a, b⟩ := okZ_parts h
  have ho := optsC_ok a
  have e1 : (puz z.rules z.position z.depth).1.margin = z.margin := by rw [b]
  have e2 : (puz z.rules z.position z.depth).1.move = z.move := by rw [b]
  unfold puz at b e1 e2
  rw [if_neg (by simpa using a)] at b e1 e2
  by_cases h2 : (opts z.rules z.position z.depth).length < 2
  · rw [if_pos h2] at b; simp at b
  rw [if_neg h2] at b e1 e2
  split at b
  · simp at b
  · rename_i h3
    rw [if_neg h3] at e1 e2
    have hb := fun (o : Opt) (h : o ∈ opts z.rules z.position z.depth) => opts_bd ho.1 (by omega) ho.2.2.1 h
    have h4 := hb _ (bOpt_mem (l := opts z.rules z.position z.depth) (by omega))
    have h5 := second_bd (m := (bOpt (opts z.rules z.position z.depth)).move) (lo := -2000) (hi := 2000) (opts z.rules z.position z.depth) (-1000) (by omega) (by omega) hb
    have h6 := bOpt_make (depth := z.depth) (r := z.rules) (p := z.position) (by rw [← opts_len z.rules z.position z.depth]; omega)
    simp only at e1 e2
    rw [e2] at h6
    have h7 := make_ok h6.1
    have h8 := okP_bd h7.1
    exact ⟨h6.1, by omega, by omega, by omega, by omega⟩
def hint (z : Puz) (level : Int) : List UInt8 × Int :=
  if okZ z = true then
    (if level = 0 then ([116, 104, 101, 114, 101, 32, 97, 114, 101, 32] ++ dec ((results z.rules z.position).length : Int) ++ [32, 109, 111, 118, 101, 115], 0)
    else if level = 1 then ([116, 104, 101, 32, 98, 101, 115, 116, 32, 109, 111, 118, 101, 32, 103, 97, 105, 110, 115, 32] ++ dec (make z.rules z.position z.move).1.gain ++ [32, 97, 116, 32, 111, 110, 99, 101], 0)
    else if level = 2 then ([97, 108, 108, 32, 111, 116, 104, 101, 114, 115, 32, 97, 114, 101, 32, 119, 111, 114, 115, 101, 32, 98, 121, 32] ++ dec z.margin, 0)
    else if level = 3 then ([112, 108, 97, 121, 32] ++ dec z.move, 0)
    else ([], 2))
  else ([], 1)
theorem hint_yes {z : Puz} {level : Int} (h : okZ z = true) : hint z level = (if level = 0 then ([116, 104, 101, 114, 101, 32, 97, 114, 101, 32] ++ dec ((results z.rules z.position).length : Int) ++ [32, 109, 111, 118, 101, 115], 0)
    else if level = 1 then ([116, 104, 101, 32, 98, 101, 115, 116, 32, 109, 111, 118, 101, 32, 103, 97, 105, 110, 115, 32] ++ dec (make z.rules z.position z.move).1.gain ++ [32, 97, 116, 32, 111, 110, 99, 101], 0)
    else if level = 2 then ([97, 108, 108, 32, 111, 116, 104, 101, 114, 115, 32, 97, 114, 101, 32, 119, 111, 114, 115, 101, 32, 98, 121, 32] ++ dec z.margin, 0)
    else if level = 3 then ([112, 108, 97, 121, 32] ++ dec z.move, 0)
    else ([], 2)) := by unfold hint; rw [if_pos h]
theorem hint_no {z : Puz} {level : Int} (h : okZ z = false) : hint z level = ([], 1) := by unfold hint; rw [if_neg (by simp [h])]
def fNames : List (List UInt8) := [[115, 116, 111, 114, 101, 115], [115, 107, 105, 112], [114, 101, 108, 97, 121], [102, 101, 101, 100], [97, 103, 97, 105, 110]]
def capName (k : Int) : List UInt8 := if k = 0 then [110, 111, 110, 101] else if k = 1 then [116, 119, 111, 45, 116, 104, 114, 101, 101] else if k = 2 then [99, 114, 111, 115, 115] else if k = 3 then [101, 118, 101, 110] else []
def slamName (k : Int) : List UInt8 := if k = 0 then [116, 97, 107, 101] else if k = 1 then [102, 111, 114, 98, 105, 100] else if k = 2 then [110, 111, 116, 104, 105, 110, 103] else []
theorem capName_len (k : Int) : (capName k).length ≤ 9 := by unfold capName; (repeat' split) <;> simp
theorem slamName_len (k : Int) : (slamName k).length ≤ 7 := by unfold slamName; (repeat' split) <;> simp
def flagB (r : Rul) (y : List UInt8) : Bool := if y = [115, 116, 111, 114, 101, 115] then r.stores else if y = [115, 107, 105, 112] then r.skip else if y = [114, 101, 108, 97, 121] then r.relay else if y = [102, 101, 101, 100] then r.feed else if y = [97, 103, 97, 105, 110] then r.again else false
def rulesN (r : Rul) : Nat → List UInt8
  | 0 => [112, 105, 116, 115, 61] ++ dec r.pits ++ [32, 115, 101, 101, 100, 115, 61] ++ dec r.seeds ++ [32, 99, 97, 112, 116, 117, 114, 101, 61] ++ capName r.capture ++ [32, 115, 108, 97, 109, 61] ++ slamName r.slam
  | k + 1 => if flagB r (fNames.getD k []) = true then rulesN r k ++ ([32] ++ fNames.getD k []) else rulesN r k
def rulesT (r : Rul) : List UInt8 := rulesN r 5
theorem rulesN_len (r : Rul) : ∀ k : Nat, k ≤ 5 → (rulesN r k).length ≤ 120 + 7 * k
  | 0, _ => by
    have a := dec_len r.pits; have c := dec_len r.seeds; have d := capName_len r.capture; have e := slamName_len r.slam
    rw [rulesN]; simp only [List.length_append, List.length_cons, List.length_nil]; omega
  | k + 1, hk => by
    have h1 := rulesN_len r k (by omega)
    have h2 : (fNames.getD k []).length ≤ 6 := by
      have : k = 0 ∨ k = 1 ∨ k = 2 ∨ k = 3 ∨ k = 4 := by omega
      rcases this with rfl | rfl | rfl | rfl | rfl <;> decide
    rw [rulesN]; split <;> first | omega | (simp only [List.length_append, List.length_cons, List.length_nil]; omega)
theorem rulesT_len (r : Rul) : (rulesT r).length ≤ 155 := rulesN_len r 5 (Nat.le_refl _)
def recLine (n m g : Int) : List UInt8 := dec n ++ [46, 32] ++ dec m ++ [43] ++ dec g
theorem recLine_len (n m g : Int) : (recLine n m g).length ≤ 66 := by
  have a := dec_len n; have c := dec_len m; have d := dec_len g
  unfold recLine; simp only [List.length_append, List.length_cons, List.length_nil]; omega
end Go.Proofs.YtjdhgkdimanabaaGreatDoor.M
namespace Go.Proofs.YtjdhgkdimanabaaGreatDoor
open Go.RowKit
instance {n : Int} : LenB (M.capName n) 9 := ⟨M.capName_len n⟩
instance {n : Int} : LenB (M.slamName n) 7 := ⟨M.slamName_len n⟩
instance {r : M.Rul} : LenB (M.rulesT r) 155 := ⟨M.rulesT_len r⟩
instance {a b c : Int} : LenB (M.recLine a b c) 66 := ⟨M.recLine_len a b c⟩
theorem strs_cellsok {w : World} : ∀ l : List (List UInt8), cellsOk w (l.map Ty.str) (txs_ l)
  | [] => trivial
  | x :: l => ⟨rfl, strs_cellsok l⟩
theorem strs_rowok {w : World} {e : TypeId} {n : Nat} {v : Value} {xs : List (List UInt8)} {g : List Nat} (h : (rowO e 1 v n (txs_ xs) g).pr w) : (Ty.strs e xs).ok w v := by
  have hl : n = xs.length := by have := h.1; rw [List.length_map] at this; omega
  subst hl
  exact row_ok h (strs_cellsok xs)
def ownsRowS (w : World) (e : TypeId) (v : Value) (n : Nat) (xs : List Value) : Prop :=
  xs.length = n ∧ ∃ g cap cur fz, v = .slice (some ⟨g, 0, none⟩) n cap ∧ w.heap[g]? = some (.cells cur e fz) ∧ (fz.2 = 0 ∨ cap ≤ fz.1) ∧ n ≤ cap ∧ cap ≤ maxLen ∧ cur.size = cap ∧ cur.toList.take n = xs
theorem ownsRowS.cell {w : World} {e : TypeId} {g n cap : Nat} {xs : List Value} (h : ownsRowS w e (.slice (some ⟨g, 0, none⟩) n cap) n xs) (j : Nat) (u : Value) (hu : xs[j]? = some u) : w.cell? ⟨g, j, none⟩ = some u := by
  obtain ⟨_, g', cap', cur, fz, hv, hg, _, _, _, _, ht⟩ := h
  injection hv with hv _ _
  injection hv with hv
  injection hv with hv _ _
  subst hv
  rw [← ht, List.getElem?_take] at hu
  split at hu
  · simp [World.cell?, hg]; simpa using hu
  · cases hu
section
variable {P : Program}
variable {n lo : Nat} {B : List Nat} {l : Fr} {os : List Own} {u : World} {dst : Option Tmp} {ty : TypeId} {pos : String} {af : Array Edge} {gd : Option (Nat × Bool)}
end
end Go.Proofs.YtjdhgkdimanabaaGreatDoor
namespace Go.Proofs.YtjdhgkdimanabaaGreatDoor.M
def noteT (pl mv gn : Int) (ag : Bool) : List UInt8 :=
  if ag = true then (if 0 < gn then ([112, 108, 97, 121, 101, 114, 32] ++ dec pl ++ [32, 112, 108, 97, 121, 115, 32] ++ dec mv) ++ ([44, 32, 103, 97, 105, 110, 115, 32] ++ dec gn) else ([112, 108, 97, 121, 101, 114, 32] ++ dec pl ++ [32, 112, 108, 97, 121, 115, 32] ++ dec mv)) ++ [44, 32, 109, 111, 118, 101, 115, 32, 97, 103, 97, 105, 110]
  else (if 0 < gn then ([112, 108, 97, 121, 101, 114, 32] ++ dec pl ++ [32, 112, 108, 97, 121, 115, 32] ++ dec mv) ++ ([44, 32, 103, 97, 105, 110, 115, 32] ++ dec gn) else ([112, 108, 97, 121, 101, 114, 32] ++ dec pl ++ [32, 112, 108, 97, 121, 115, 32] ++ dec mv))
def notes (l : List (Pos × Res)) : List (List UInt8) := l.map fun x => noteT x.1.player x.2.move x.2.gain x.2.again
@[simp] theorem notes_length (l : List (Pos × Res)) : (notes l).length = l.length := by simp [notes]
def markT (k : Int) : List UInt8 := if k ≤ 0 then [109, 48] else [109] ++ dec k
def upT (k : Int) (n : Nat) : List (List UInt8) := (List.range n).map fun (i : Nat) => markT (k + (i : Int))
@[simp] theorem upT_length (k : Int) (n : Nat) : (upT k n).length = n := by simp [upT]
def bat (a : List UInt8) (i : Nat) : Int := ((a.getD i 0).toNat : Int)
theorem bat_bd (a : List UInt8) (i : Nat) : 0 ≤ bat a i ∧ bat a i ≤ 255 := by
  have := (a.getD i 0).toNat_lt
  unfold bat; omega
def split (by_ : UInt8) : List UInt8 → List (List UInt8)
  | [] => [[]]
  | b :: l => if b = by_ then [] :: split by_ l else match split by_ l with
    | [] => [[b]]
    | w :: ws => (b :: w) :: ws
theorem split_ne (by_ : UInt8) (l : List UInt8) : split by_ l ≠ [] := by
  cases l with
  | nil => simp [split]
  | cons b l =>
    rw [split]; split
    · simp
    · split <;> simp
theorem split_app (by_ : UInt8) : ∀ (p q : List UInt8), by_ ∉ p → split by_ (p ++ by_ :: q) = p :: split by_ q
  | [], q, _ => by rw [List.nil_append, split, if_pos rfl]
  | b :: p, q, h => by
    have hb : b ≠ by_ := fun e => h (by simp [e])
    have := split_app by_ p q (fun hm => h (by simp [hm]))
    rw [List.cons_append, split, if_neg hb, this]
theorem split_last (by_ : UInt8) : ∀ (p : List UInt8), by_ ∉ p → split by_ p = [p]
  | [], _ => rfl
  | b :: p, h => by
    have hb : b ≠ by_ := fun e => h (by simp [e])
    have := split_last by_ p (fun hm => h (by simp [hm]))
    rw [split, if_neg hb, this]
structure SplI (b : UInt8) (s : List UInt8) (f k : Nat) (out : List (List UInt8)) : Prop where
  h : out ++ split b (s.drop f) = split b s
  n : b ∉ (s.drop f).take (k - f)
  l : f ≤ k
theorem SplI.zero (b : UInt8) (s : List UInt8) : SplI b s 0 0 [] := ⟨rfl, by simp, Nat.le_refl _⟩
theorem bat_get {s : List UInt8} {k : Nat} (h : k < s.length) : bat s k = (s[k].toNat : Int) := by simp [bat, List.getD, h]
theorem drop_cut {s : List UInt8} {f k : Nat} (h : k < s.length) (hl : f ≤ k) : s.drop f = (s.drop f).take (k - f) ++ s[k] :: s.drop (k + 1) := by
  have e : (s.drop f).drop (k - f) = s[k] :: s.drop (k + 1) := by rw [List.drop_drop, show f + (k - f) = k by omega]; exact List.drop_eq_getElem_cons h
  rw [← e, List.take_append_drop]
theorem u8_of {b : Int} {x : UInt8} (h : (x.toNat : Int) = b) : x = u8 b := by
  subst h; unfold u8; simp
theorem SplI.hit {b : Int} {s : List UInt8} {f k : Nat} {out : List (List UInt8)} (h : SplI (u8 b) s f k out) (hk : k < s.length) (hb : bat s k = b) : SplI (u8 b) s (k + 1) (k + 1) (out ++ [(s.drop f).take (k - f)]) := by
  have hx : s[k] = u8 b := u8_of (by rw [← hb, bat_get hk])
  refine ⟨?_, by simp, Nat.le_refl _⟩
  have e := drop_cut hk h.l
  rw [hx] at e
  rw [← h.h, e, split_app _ _ _ h.n, ← e]
  simp
theorem SplI.miss {b : Int} {s : List UInt8} {f k : Nat} {out : List (List UInt8)} (h : SplI (u8 b) s f k out) (hk : k < s.length) (h0 : 0 ≤ b) (h1 : b ≤ 255) (hb : bat s k ≠ b) : SplI (u8 b) s f (k + 1) out := by
  refine ⟨h.h, fun hm => ?_, by have := h.l; omega⟩
  have hl := h.l
  have e : (s.drop f).take (k + 1 - f) = (s.drop f).take (k - f) ++ [s[k]] := by
    rw [show k + 1 - f = (k - f) + 1 by omega, List.take_add_one, List.getElem?_drop, show f + (k - f) = k by omega, List.getElem?_eq_getElem hk]; rfl
  rw [e] at hm
  rcases List.mem_append.1 hm with hm | hm
  · exact h.n hm
  · simp only [List.mem_singleton] at hm
    apply hb
    rw [bat_get hk, ← hm]; exact u8_val h0 h1
theorem SplI.done {b : UInt8} {s : List UInt8} {f k : Nat} {out : List (List UInt8)} (h : SplI b s f k out) (hk : s.length ≤ k) : out ++ [s.drop f] = split b s := by
  have hn := h.n
  rw [List.take_of_length_le (by rw [List.length_drop]; omega)] at hn
  rw [← h.h, split_last _ _ hn]
theorem SplI.len {b : UInt8} {s : List UInt8} {f k : Nat} {out : List (List UInt8)} (h : SplI b s f k out) : out.length ≤ (split b s).length := by rw [← h.h, List.length_append]; omega
theorem split_len (b : UInt8) : ∀ s : List UInt8, (split b s).length ≤ s.length + 1
  | [] => by simp [split]
  | x :: s => by
    have := split_len b s
    rw [split]; split
    · simp; omega
    · split
      · simp
      · rename_i h; rw [h] at this; simp at this ⊢; omega
end Go.Proofs.YtjdhgkdimanabaaGreatDoor.M
namespace Go.Proofs.YtjdhgkdimanabaaGreatDoor
open Go.RowKit
section
variable {P : Program} {n lo : Nat} {B : List Nat} {l : Fr} {os : List Own} {u : World} {dst : Option Tmp} {ty : TypeId} {pos : String} {af : Array Edge} {gd : Option (Nat × Bool)} {x y z : Operand} {t : TypeId} {a : List UInt8} {i j : Nat} {k k' : IntKind}
theorem sB_size (a : List UInt8) : (sB a).size = a.length := by simp [sB, ByteArray.size]
theorem sB_extract (a : List UInt8) (i j : Nat) : (sB a).extract i j = sB ((a.drop i).take (j - i)) := ByteArray.extract_mk a i j
theorem p_takeS (hu : P.underlying t = some .string) (hx : opd l x = some (.string (sB a))) (hy : opd l y = some (.int k i)) (h : i ≤ a.length) : OpP P n l ⟨dst, .slice t x none (some y) none, ty, pos, af, gd⟩ (.string (sB (a.take i))) := fun c w ha => by
  have := run_slice_string_h (P := P) w t (sB a) hu k i (by omega) (by rw [sB_size]; omega)
  rw [sB_extract] at this
  simp only [Int.toNat_natCast, Nat.sub_zero, List.drop_zero] at this
  simp only [execOp, Option.map_none, Option.map_some, ha.eval hx, ha.eval hy, Sem.run_bind, run_sliceAt_string _ t _ _ _ _ hu, this, Result.andThen_ok, Sem.run_pure]
theorem p_dropS (hu : P.underlying t = some .string) (hx : opd l x = some (.string (sB a))) (hy : opd l y = some (.int k i)) (h : i ≤ a.length) : OpP P n l ⟨dst, .slice t x (some y) none none, ty, pos, af, gd⟩ (.string (sB (a.drop i))) := fun c w ha => by
  have := run_slice_string_l (P := P) w t (sB a) hu k i (by omega) (by rw [sB_size]; omega)
  rw [sB_extract, sB_size] at this
  simp only [Int.toNat_natCast] at this
  rw [List.take_of_length_le (by simp)] at this
  simp only [execOp, Option.map_none, Option.map_some, ha.eval hx, ha.eval hy, Sem.run_bind, run_sliceAt_string _ t _ _ _ _ hu, this, Result.andThen_ok, Sem.run_pure]
theorem p_midS (hu : P.underlying t = some .string) (hx : opd l x = some (.string (sB a))) (hy : opd l y = some (.int k i)) (hz : opd l z = some (.int k' j)) (h1 : i ≤ j) (h2 : j ≤ a.length) : OpP P n l ⟨dst, .slice t x (some y) (some z) none, ty, pos, af, gd⟩ (.string (sB ((a.drop i).take (j - i)))) := fun c w ha => by
  have := run_slice_string (P := P) w t (sB a) k k' i j hu (by omega) (by omega) (by rw [sB_size]; omega)
  rw [sB_extract] at this
  simp only [Int.toNat_natCast] at this
  simp only [execOp, Option.map_none, Option.map_some, ha.eval hx, ha.eval hy, ha.eval hz, Sem.run_bind, run_sliceAt_string _ t _ _ _ _ hu, this, Result.andThen_ok, Sem.run_pure]
theorem p_byteS (hu : P.underlying t = some .string) (hx : opd l x = some (.string (sB a))) (hy : opd l y = some (.int k i)) (h : i < a.length) : OpP P n l ⟨dst, .index t x y, ty, pos, af, gd⟩ (.int .u8 (M.bat a i)) := fun c w ha => by
  have := run_index_string (P := P) w t (sB a) k i hu
  rw [dif_pos ⟨by omega, by rw [sB_size]; omega⟩] at this
  have e : ((sB a)[(i : Int).toNat]'(by rw [sB_size]; omega)) = a[i] := rfl
  have e2 : M.bat a i = (a[i].toNat : Int) := by simp [M.bat, List.getD, h]
  simp only [execOp, ha.eval hx, ha.eval hy, Sem.run_bind, this, Result.andThen_ok, Sem.run_pure]
  rw [e2]; rfl
end
instance {a : List UInt8} {k i : Nat} [h : LenB a k] : LenB (a.take i) k := ⟨by rw [List.length_take]; have := h.h; omega⟩
instance {a : List UInt8} {k i : Nat} [h : LenB a k] : LenB (a.drop i) k := ⟨by rw [List.length_drop]; have := h.h; omega⟩
end Go.Proofs.YtjdhgkdimanabaaGreatDoor
namespace Go.Proofs.YtjdhgkdimanabaaGreatDoor.M
def isDig (c : Int) : Bool := decide (48 ≤ c) && decide (c ≤ 57)
def numT (s : List UInt8) : List UInt8 := if s ≠ [] ∧ bat s 0 = 45 then s.drop 1 else s
theorem numT_y {s : List UInt8} (h0 : s ≠ []) (h : bat s 0 = 45) : numT s = s.drop 1 := by unfold numT; rw [if_pos ⟨h0, h⟩]
theorem numT_n {s : List UInt8} (h : ¬ (s ≠ [] ∧ bat s 0 = 45)) : numT s = s := by unfold numT; rw [if_neg h]
def numN (t : List UInt8) : Nat → Int
  | 0 => 0
  | k + 1 => 10 * numN t k + (bat t k - 48)
def Digs (t : List UInt8) (k : Nat) : Prop := ∀ i : Nat, i < k → isDig (bat t i) = true
theorem Digs.zero (t : List UInt8) : Digs t 0 := fun i h => absurd h (by omega)
theorem Digs.step {t : List UInt8} {k : Nat} (h : Digs t k) (hk : isDig (bat t k) = true) : Digs t (k + 1) := fun i hi => by
  by_cases e : i = k
  · rw [e]; exact hk
  · exact h i (by omega)
theorem dig_bd {c : Int} (h : isDig c = true) : 48 ≤ c ∧ c ≤ 57 := by unfold isDig at h; simp at h; exact h
theorem numN_bd {t : List UInt8} : ∀ k : Nat, Digs t k → 0 ≤ numN t k ∧ numN t k + 1 ≤ (10 : Int) ^ k
  | 0, _ => by simp [numN]
  | k + 1, h => by
    obtain ⟨a, b⟩ := numN_bd k (fun i hi => h i (by omega))
    obtain ⟨c, d⟩ := dig_bd (h k (by omega))
    rw [numN, Int.pow_succ]
    constructor <;> omega
theorem pow10_le {k m : Nat} (h : k ≤ m) : (10 : Int) ^ k ≤ (10 : Int) ^ m := by
  have : (10 : Nat) ^ k ≤ 10 ^ m := Nat.pow_le_pow_right (by decide) h
  have e : ∀ n : Nat, ((10 ^ n : Nat) : Int) = (10 : Int) ^ n := fun n => by simp
  rw [← e, ← e]; omega
theorem numN_17 {t : List UInt8} {k : Nat} (h : Digs t k) (hk : k ≤ 17) : 0 ≤ numN t k ∧ numN t k ≤ 99999999999999999 := by
  have a := numN_bd k h; have b := pow10_le hk
  have e : (10 : Int) ^ 17 = 100000000000000000 := by decide
  omega
theorem numN_18 {t : List UInt8} {k : Nat} (h : Digs t k) (hk : k ≤ 18) : 0 ≤ numN t k ∧ numN t k ≤ 999999999999999999 := by
  have a := numN_bd k h; have b := pow10_le hk
  have e : (10 : Int) ^ 18 = 1000000000000000000 := by decide
  omega
def numS (s : List UInt8) : Int := if (numT s).length < s.length then -numN (numT s) (numT s).length else numN (numT s) (numT s).length
def digs (t : List UInt8) : Bool := (List.range t.length).all fun i => isDig (bat t i)
theorem digs_yes {t : List UInt8} {k : Nat} (h : Digs t k) (hk : t.length ≤ k) : digs t = true := by
  unfold digs; rw [List.all_eq_true]; intro i hi
  exact h i (by have := List.mem_range.1 hi; omega)
theorem digs_no {t : List UInt8} {k : Nat} (hk : k < t.length) (h : isDig (bat t k) = false) : digs t = false := by
  cases e : digs t
  · rfl
  · unfold digs at e; rw [List.all_eq_true] at e
    have := e k (List.mem_range.2 hk); rw [h] at this; exact absurd this (by simp)
def num (s : List UInt8) : Int × Bool :=
  if (numT s).length < 1 ∨ 18 < (numT s).length then (0, false) else if digs (numT s) = false then (0, false) else if dec (numS s) = s then (numS s, true) else (0, false)
theorem num_len {s : List UInt8} (h : (numT s).length < 1 ∨ 18 < (numT s).length) : num s = (0, false) := by unfold num; rw [if_pos h]
theorem num_dig {s : List UInt8} (h : digs (numT s) = false) : num s = (0, false) := by unfold num; rw [if_pos h]; split <;> rfl
theorem num_no {s : List UInt8} (h : dec (numS s) ≠ s) : num s = (0, false) := by unfold num; rw [if_neg h]; split <;> (try split) <;> rfl
theorem num_yes {s : List UInt8} (h1 : ¬ ((numT s).length < 1 ∨ 18 < (numT s).length)) (h2 : digs (numT s) = true) (h : dec (numS s) = s) : num s = (numS s, true) := by
  unfold num; rw [if_neg h1, if_neg (by simp [h2]), if_pos h]
theorem numS_neg {s : List UInt8} (h : (numT s).length < s.length) : numS s = -numN (numT s) (numT s).length := by unfold numS; rw [if_pos h]
theorem numS_pos {s : List UInt8} (h : ¬ (numT s).length < s.length) : numS s = numN (numT s) (numT s).length := by unfold numS; rw [if_neg h]
def hit (s sep : List UInt8) (k : Nat) : Bool := decide (k + sep.length ≤ s.length) && decide ((s.drop k).take sep.length = sep)
def cutS (s sep : List UInt8) : List UInt8 × List UInt8 × Bool :=
  match (List.range (s.length + 1)).find? (hit s sep) with
  | some k => (s.take k, s.drop (k + sep.length), true)
  | none => (s, [], false)
theorem find_first {p : Nat → Bool} : ∀ {n k : Nat}, k < n → p k = true → (∀ i, i < k → p i = false) → (List.range n).find? p = some k := by
  intro n k hk hp hn
  rw [List.find?_range_eq_some]
  exact ⟨hp, by simpa using hk, fun j hj => by simpa using hn j hj⟩
theorem cutS_yes {s sep : List UInt8} {k : Nat} (hk : k + sep.length ≤ s.length) (h : (s.drop k).take sep.length = sep) (hn : ∀ i, i < k → (s.drop i).take sep.length ≠ sep) : cutS s sep = (s.take k, s.drop (k + sep.length), true) := by
  unfold cutS
  rw [find_first (k := k) (by omega) (by simp [hit, hk, h]) (fun i hi => by simp [hit, hn i hi])]
theorem cutS_no {s sep : List UInt8} {k : Nat} (hk : s.length < k + sep.length) (hn : ∀ i, i < k → (s.drop i).take sep.length ≠ sep) : cutS s sep = (s, [], false) := by
  unfold cutS
  have : (List.range (s.length + 1)).find? (hit s sep) = none := by
    rw [List.find?_eq_none]
    intro i hi
    by_cases h : i < k
    · simp [hit, hn i h]
    · simp [hit]; omega
  rw [this]
theorem miss_step {s sep : List UInt8} {k : Nat} (hn : ∀ i, i < k → (s.drop i).take sep.length ≠ sep) (h : (s.drop k).take sep.length ≠ sep) : ∀ i, i < k + 1 → (s.drop i).take sep.length ≠ sep := fun i hi => by
  by_cases e : i = k
  · rw [e]; exact h
  · exact hn i (by omega)
theorem cutS_len (s sep : List UInt8) : (cutS s sep).1.length ≤ s.length ∧ (cutS s sep).2.1.length ≤ s.length := by
  unfold cutS; split
  · simp only [List.length_take, List.length_drop]; omega
  · simp
theorem hit_one {s : List UInt8} {b : UInt8} {k : Nat} : hit s [b] k = true ↔ s[k]? = some b := by
  unfold hit
  simp only [List.length_cons, List.length_nil, Nat.zero_add, Bool.and_eq_true, decide_eq_true_eq]
  constructor
  · rintro ⟨h1, h2⟩
    have : k < s.length := by omega
    rw [List.drop_eq_getElem_cons this] at h2
    simp only [List.take_succ_cons, List.take_zero, List.cons.injEq, and_true] at h2
    rw [List.getElem?_eq_getElem this, h2]
  · intro h
    obtain ⟨hk, h⟩ := List.getElem?_eq_some_iff.1 h
    refine ⟨by omega, ?_⟩
    rw [List.drop_eq_getElem_cons hk]
    simp [h]
theorem cutS_one (b : UInt8) (s : List UInt8) : ((cutS s [b]).2.2 = true ∧ split b s = (cutS s [b]).1 :: split b (cutS s [b]).2.1 ∧ (cutS s [b]).2.1.length < s.length) ∨ ((cutS s [b]).2.2 = false ∧ split b s = [(cutS s [b]).1]) := by
  unfold cutS
  cases hf : (List.range (s.length + 1)).find? (hit s [b]) with
  | some k =>
    left
    rw [List.find?_range_eq_some] at hf
    obtain ⟨h1, _, h3⟩ := hf
    rw [hit_one] at h1
    obtain ⟨hk, h⟩ := List.getElem?_eq_some_iff.1 h1
    refine ⟨rfl, ?_, by simp; omega⟩
    have e : s = s.take k ++ b :: s.drop (k + 1) := by
      rw [← h, ← List.drop_eq_getElem_cons hk, List.take_append_drop]
    have hm : b ∉ s.take k := fun hm => by
      obtain ⟨i, hi, he⟩ := List.mem_iff_getElem.1 hm
      have hik : i < k := by rw [List.length_take] at hi; omega
      have := h3 i hik
      rw [Bool.not_eq_true', ← Bool.not_eq_true, hit_one] at this
      apply this
      rw [List.getElem_take] at he
      rw [List.getElem?_eq_getElem (by omega), he]
    show split b s = s.take k :: split b (s.drop (k + 1))
    conv => lhs; rw [e]
    exact split_app b _ _ hm
  | none =>
    right
    rw [List.find?_eq_none] at hf
    refine ⟨rfl, split_last b s fun hm => ?_⟩
    obtain ⟨i, hi, he⟩ := List.mem_iff_getElem.1 hm
    have := hf i (by simp; omega)
    apply this
    rw [hit_one, List.getElem?_eq_getElem hi, he]
theorem parts_more {b : UInt8} {s cur : List UInt8} {out : List (List UInt8)} (h : out ++ split b cur = split b s) (hc : (cutS cur [b]).2.2 = true) : (out ++ [(cutS cur [b]).1]) ++ split b (cutS cur [b]).2.1 = split b s ∧ (cutS cur [b]).2.1.length < cur.length := by
  rcases cutS_one b cur with ⟨_, h2, h3⟩ | ⟨h2, _⟩
  · rw [← h, h2]; simp; exact h3
  · rw [hc] at h2; simp at h2
theorem parts_last {b : UInt8} {s cur : List UInt8} {out : List (List UInt8)} (h : out ++ split b cur = split b s) (hc : (cutS cur [b]).2.2 = false) : out ++ [(cutS cur [b]).1] = split b s := by
  rcases cutS_one b cur with ⟨h2, _, _⟩ | ⟨_, h2⟩
  · rw [hc] at h2; simp at h2
  · rw [← h, h2]
theorem parts_len {b : UInt8} {s cur : List UInt8} {out : List (List UInt8)} (h : out ++ split b cur = split b s) : out.length ≤ s.length + 1 := by
  have := split_len b s; rw [← h, List.length_append] at this; omega
theorem split_mem (b : UInt8) : ∀ (s w : List UInt8), w ∈ split b s → w.length ≤ s.length
  | [], w, h => by simp [split] at h; simp [h]
  | x :: s, w, h => by
    rw [split] at h
    split at h
    · rcases List.mem_cons.1 h with rfl | h
      · simp
      · have := split_mem b s w h; simp; omega
    · split at h
      · simp at h; simp [h]
      · rename_i v vs e
        rcases List.mem_cons.1 h with rfl | h
        · have := split_mem b s v (by rw [e]; simp); simp; omega
        · have := split_mem b s w (by rw [e]; simp [h]); simp; omega
def numsOk (l : List (List UInt8)) : Bool := l.all fun w => (num w).2
def numsV (l : List (List UInt8)) : List Int := l.map fun w => (num w).1
def nums (s : List UInt8) : List Int × Bool := if numsOk (split 44 s) = true then (numsV (split 44 s), true) else ([], false)
theorem nums_yes {s : List UInt8} (h : numsOk (split 44 s) = true) : nums s = (numsV (split 44 s), true) := by unfold nums; rw [if_pos h]
theorem nums_no {s : List UInt8} (h : numsOk (split 44 s) = false) : nums s = ([], false) := by unfold nums; rw [if_neg (by simp [h])]
theorem nums_step {l : List (List UInt8)} {out : List Int} {k : Nat} {y : List UInt8} (h : out = numsV (l.take k)) (hy : l[k]? = some y) : out ++ [(num y).1] = numsV (l.take (k + 1)) := by
  rw [List.take_add_one, hy, h]; simp [numsV]
theorem numsOk_step {l : List (List UInt8)} {k : Nat} {y : List UInt8} (h : numsOk (l.take k) = true) (hy : l[k]? = some y) (hn : (num y).2 = true) : numsOk (l.take (k + 1)) = true := by
  rw [List.take_add_one, hy]; unfold numsOk at *; rw [List.all_append, h]; simp [hn]
theorem numsOk_no {l : List (List UInt8)} {k : Nat} {y : List UInt8} (hy : l[k]? = some y) (hn : (num y).2 = false) : numsOk l = false := by
  cases e : numsOk l
  · rfl
  · unfold numsOk at e; rw [List.all_eq_true] at e
    have := e y (List.mem_of_getElem? hy); rw [hn] at this; exact absurd this (by simp)
structure NumsI (s cur : List UInt8) (out : List Int) : Prop where
  ok : numsOk (split 44 cur) = numsOk (split 44 s)
  v : out ++ numsV (split 44 cur) = numsV (split 44 s)
theorem NumsI.zero (s : List UInt8) : NumsI s s [] := ⟨rfl, rfl⟩
theorem NumsI.bad {s cur : List UInt8} {out : List Int} (h : NumsI s cur out) (hn : (num (cutS cur [44]).1).2 = false) : numsOk (split 44 s) = false := by
  rw [← h.ok]
  rcases cutS_one 44 cur with ⟨_, h2, _⟩ | ⟨_, h2⟩ <;> (rw [h2]; simp [numsOk, hn])
theorem NumsI.more {s cur : List UInt8} {out : List Int} (h : NumsI s cur out) (hn : (num (cutS cur [44]).1).2 = true) (hc : (cutS cur [44]).2.2 = true) : NumsI s (cutS cur [44]).2.1 (out ++ [(num (cutS cur [44]).1).1]) ∧ (cutS cur [44]).2.1.length < cur.length := by
  rcases cutS_one 44 cur with ⟨_, h2, h3⟩ | ⟨h2, _⟩
  · refine ⟨⟨?_, ?_⟩, h3⟩
    · rw [← h.ok, h2]; simp [numsOk, hn]
    · rw [← h.v, h2]; simp [numsV]
  · rw [hc] at h2; simp at h2
theorem NumsI.last {s cur : List UInt8} {out : List Int} (h : NumsI s cur out) (hn : (num (cutS cur [44]).1).2 = true) (hc : (cutS cur [44]).2.2 = false) : nums s = (out ++ [(num (cutS cur [44]).1).1], true) := by
  rcases cutS_one 44 cur with ⟨h2, _, _⟩ | ⟨_, h2⟩
  · rw [hc] at h2; simp at h2
  · rw [nums_yes (by rw [← h.ok, h2]; simp [numsOk, hn]), ← h.v, h2]; simp [numsV]
theorem NumsI.len {s cur : List UInt8} {out : List Int} (h : NumsI s cur out) : out.length ≤ s.length + 1 := by
  have a := split_len 44 s
  have := congrArg List.length h.v
  rw [List.length_append] at this
  simp only [numsV, List.length_map] at this; omega
theorem nums_end {s : List UInt8} {out : List Int} {k : Nat} (h1 : numsOk ((split 44 s).take k) = true) (h : out = numsV ((split 44 s).take k)) (hk : (split 44 s).length ≤ k) : nums s = (out, true) := by
  rw [List.take_of_length_le hk] at h1 h
  rw [nums_yes h1, h]
theorem nums_len (s : List UInt8) : (nums s).1.length ≤ s.length + 1 := by
  have := split_len 44 s
  unfold nums; split
  · simpa [numsV] using this
  · simp
def decB (b : UInt8) : Prop := b = 45 ∨ (48 ≤ b.toNat ∧ b.toNat ≤ 57)
theorem decB_dig (d : Nat) (h : d < 10) : decB (UInt8.ofNat (48 + d)) := by
  right
  rw [UInt8.toNat_ofNat', Nat.mod_eq_of_lt (by omega)]
  omega
theorem decDigits_B : ∀ (u : Nat) (b : UInt8), b ∈ Lib.decDigits u → decB b := by
  intro u
  induction u using Nat.strongRecOn with
  | ind u ih =>
    intro b hb
    rw [Lib.decDigits] at hb
    by_cases hs : u < 10
    · rw [dif_pos hs] at hb
      simp only [List.mem_singleton] at hb
      rw [hb]; exact decB_dig u hs
    · rw [dif_neg hs] at hb
      rcases List.mem_append.1 hb with hb | hb
      · exact ih (u / 10) (by omega) b hb
      · simp only [List.mem_singleton] at hb
        rw [hb]; exact decB_dig _ (by omega)
theorem dec_B {n : Int} {b : UInt8} (h : b ∈ dec n) : decB b := by
  unfold dec at h
  split at h
  · unfold Lib.itoa at h
    split at h
    · rcases List.mem_cons.1 h with rfl | h
      · exact .inl rfl
      · exact decDigits_B _ _ h
    · exact decDigits_B _ _ h
  · simp at h
theorem decB_no {b c : UInt8} (h : decB b) (hc : c = 32 ∨ c = 44 ∨ c = 47) : b ≠ c := by
  rintro rfl
  rcases hc with rfl | rfl | rfl <;> (rcases h with h | ⟨h1, h2⟩ <;> first | exact absurd h (by decide) | exact absurd h1 (by decide))
theorem num_dec {s : List UInt8} (h : (num s).2 = true) : dec (num s).1 = s := by
  unfold num at *
  split at h
  · simp at h
  · split at h
    · simp at h
    · split at h
      · rename_i h1 h2 h3; rw [if_neg h1, if_neg h2, if_pos h3]; exact h3
      · simp at h
def joinW (b : UInt8) : List (List UInt8) → List UInt8
  | [] => []
  | [w] => w
  | w :: v :: ws => w ++ b :: joinW b (v :: ws)
theorem joinW_cons (b : UInt8) (w : List UInt8) {ws : List (List UInt8)} (h : ws ≠ []) : joinW b (w :: ws) = w ++ b :: joinW b ws := by
  cases ws with
  | nil => exact absurd rfl h
  | cons v ws => rfl
theorem joinW_split (b : UInt8) : ∀ s : List UInt8, joinW b (split b s) = s
  | [] => rfl
  | x :: s => by
    have ih := joinW_split b s
    rw [split]
    split
    · rename_i e
      rw [joinW_cons b _ (split_ne b s), ih, e]; rfl
    · split
      · rename_i e; exact absurd e (split_ne b s)
      · rename_i w ws e
        rw [e] at ih
        cases ws with
        | nil => show x :: w = x :: s; rw [show w = s from ih]
        | cons v ws =>
          show x :: (w ++ b :: joinW b (v :: ws)) = x :: s
          rw [show w ++ b :: joinW b (v :: ws) = s from ih]
theorem joinW_snoc (b : UInt8) (w : List UInt8) : ∀ {ws : List (List UInt8)}, ws ≠ [] → joinW b (ws ++ [w]) = joinW b ws ++ b :: w
  | [v], _ => rfl
  | v :: u :: ws, _ => by
    show v ++ b :: joinW b (u :: ws ++ [w]) = (v ++ b :: joinW b (u :: ws)) ++ b :: w
    rw [joinW_snoc b w (ws := u :: ws) (by simp)]; simp
theorem joinN_W (l : List Int) : ∀ k : Nat, k ≤ l.length → joinN l k = joinW 44 ((l.take k).map dec)
  | 0, _ => rfl
  | k + 1, h => by
    have ih := joinN_W l k (by omega)
    rw [take_nth (by omega), List.map_append, joinN]
    by_cases hk : 0 < k
    · rw [if_pos hk, ih, List.map_cons, List.map_nil, joinW_snoc]
      · simp
      · intro e
        have := congrArg List.length e
        rw [List.length_map, List.length_take, List.length_nil] at this; omega
    · have : k = 0 := by omega
      subst this
      rw [if_neg hk, ih]; rfl
theorem joinT_W (l : List Int) : joinT l = joinW 44 (l.map dec) := by
  unfold joinT; rw [joinN_W l _ (Nat.le_refl _), List.take_length]
theorem nums_ok {s : List UInt8} (h : (nums s).2 = true) : numsOk (split 44 s) = true := by
  cases e : numsOk (split 44 s)
  · rw [nums_no e] at h; simp at h
  · rfl
theorem nums_dec {s : List UInt8} (h : (nums s).2 = true) : joinT (nums s).1 = s := by
  have ho := nums_ok h
  rw [nums_yes ho, joinT_W]
  have : (numsV (split 44 s)).map dec = split 44 s := by
    unfold numsV numsOk at *
    rw [List.map_map]
    rw [List.all_eq_true] at ho
    conv => rhs; rw [← List.map_id (split 44 s)]
    exact List.map_congr_left fun w hw => num_dec (ho w hw)
  show joinW 44 ((numsV (split 44 s)).map dec) = s
  rw [this, joinW_split]
theorem joinW_mem {b : UInt8} : ∀ {ws : List (List UInt8)} {x : UInt8}, x ∈ joinW b ws → x = b ∨ ∃ w ∈ ws, x ∈ w
  | [], x, h => by simp [joinW] at h
  | [w], x, h => .inr ⟨w, by simp, h⟩
  | w :: v :: ws, x, h => by
    rcases List.mem_append.1 h with h | h
    · exact .inr ⟨w, by simp, h⟩
    · rcases List.mem_cons.1 h with rfl | h
      · exact .inl rfl
      · rcases joinW_mem (ws := v :: ws) h with h | ⟨u, h1, h2⟩
        · exact .inl h
        · exact .inr ⟨u, by simp [List.mem_cons.1 h1], h2⟩
theorem joinT_mem {l : List Int} {x : UInt8} (h : x ∈ joinT l) : x = 44 ∨ decB x := by
  rw [joinT_W] at h
  rcases joinW_mem h with h | ⟨w, h1, h2⟩
  · exact .inl h
  · obtain ⟨n, _, rfl⟩ := List.mem_map.1 h1
    exact .inr (dec_B h2)
theorem joinT_no {l : List Int} {c : UInt8} (hc : c = 32 ∨ c = 47) : c ∉ joinT l := fun h => by
  rcases joinT_mem h with h | h
  · subst h; rcases hc with h | h <;> exact absurd h (by decide)
  · exact decB_no h (by rcases hc with h | h <;> simp [h]) rfl
theorem dec_no {n : Int} {c : UInt8} (hc : c = 32 ∨ c = 44 ∨ c = 47) : c ∉ dec n := fun h => decB_no (dec_B h) hc rfl
theorem split_joinW (b : UInt8) : ∀ {ws : List (List UInt8)}, ws ≠ [] → (∀ w ∈ ws, b ∉ w) → split b (joinW b ws) = ws
  | [], h, _ => absurd rfl h
  | [w], _, h => split_last b w (h w (by simp))
  | w :: v :: ws, _, h => by
    show split b (w ++ b :: joinW b (v :: ws)) = _
    rw [split_app b w _ (h w (by simp)), split_joinW b (ws := v :: ws) (by simp) (fun u hu => h u (List.mem_cons_of_mem _ hu))]
theorem split_joinT {l : List Int} (h : l ≠ []) : split 44 (joinT l) = l.map dec := by
  rw [joinT_W]
  refine split_joinW 44 (by simpa using h) fun w hw => ?_
  obtain ⟨n, _, rfl⟩ := List.mem_map.1 hw
  exact dec_no (by simp)
theorem joinT_inj_len {a b : List Int} (ha : a ≠ []) (hb : b ≠ []) (h : joinT a = joinT b) : a.length = b.length := by
  have := congrArg (fun s => (split 44 s).length) h
  simp only [split_joinT ha, split_joinT hb, List.length_map] at this
  exact this
theorem nums_ne {s : List UInt8} (h : (nums s).2 = true) : (nums s).1 ≠ [] := by
  rw [nums_yes (nums_ok h)]
  intro e
  have := congrArg List.length e
  simp only [numsV, List.length_map, List.length_nil] at this
  exact split_ne 44 s (List.eq_nil_of_length_eq_zero this)
def w3 (s : List UInt8) (i : Nat) : List UInt8 := (split 32 s).getD i []
def x2 (s : List UInt8) (i : Nat) : List UInt8 := (split 47 (w3 s 1)).getD i []
def readP0 (s : List UInt8) : Pos × Bool :=
  if (split 32 s).length = 3 ∧ (split 47 (w3 s 1)).length = 2 ∧ (num (w3 s 0)).2 = true ∧ (nums (x2 s 0)).2 = true ∧ (nums (x2 s 1)).2 = true ∧ (nums (w3 s 2)).2 = true ∧ (nums (x2 s 0)).1.length = (nums (x2 s 1)).1.length
  then (⟨(nums (x2 s 0)).1 ++ (nums (x2 s 1)).1, (nums (w3 s 2)).1, (num (w3 s 0)).1⟩, true) else (Pos.zero, false)
def readP (r : Rul) (s : List UInt8) : Pos × Bool := if (readP0 s).2 = true ∧ okP r (readP0 s).1 = true then ((readP0 s).1, true) else (Pos.zero, false)
theorem readP_no {r : Rul} {s : List UInt8} (h : (readP0 s).2 = false) : readP r s = (Pos.zero, false) := by unfold readP; rw [if_neg (by simp [h])]
theorem readP0_no {s : List UInt8} (h : ¬ ((split 32 s).length = 3 ∧ (split 47 (w3 s 1)).length = 2 ∧ (num (w3 s 0)).2 = true ∧ (nums (x2 s 0)).2 = true ∧ (nums (x2 s 1)).2 = true ∧ (nums (w3 s 2)).2 = true ∧ (nums (x2 s 0)).1.length = (nums (x2 s 1)).1.length)) : readP0 s = (Pos.zero, false) := by
  unfold readP0; rw [if_neg h]
theorem split_two {b : UInt8} {s : List UInt8} (h : (cutS s [b]).2.2 = true) (hb : b ∉ (cutS s [b]).2.1) : split b s = [(cutS s [b]).1, (cutS s [b]).2.1] := by
  rcases cutS_one b s with ⟨_, h2, _⟩ | ⟨h2, _⟩
  · rw [h2, split_last b _ hb]
  · rw [h] at h2; simp at h2
def first5 (s : List UInt8) : Prop := (num (w3 s 0)).2 = true ∧ (cutS (w3 s 1) [47]).2.2 = true ∧ (nums (cutS (w3 s 1) [47]).1).2 = true ∧ (nums (cutS (w3 s 1) [47]).2.1).2 = true ∧ (nums (w3 s 2)).2 = true
theorem first_x {s : List UInt8} (h : first5 s) : split 47 (w3 s 1) = [(cutS (w3 s 1) [47]).1, (cutS (w3 s 1) [47]).2.1] := by
  obtain ⟨_, h2, _, h4, _⟩ := h
  refine split_two h2 ?_
  rw [← nums_dec h4]; exact joinT_no (by simp)
theorem first_no {s : List UInt8} (h : ¬ first5 s) : readP0 s = (Pos.zero, false) := readP0_no fun ⟨_, h2, h3, h4, h5, h6, _⟩ => by
  apply h
  rcases cutS_one 47 (w3 s 1) with ⟨c1, c2, _⟩ | ⟨_, c2⟩
  · rw [c2] at h2
    have hl : (split 47 (cutS (w3 s 1) [47]).2.1).length = 1 := by simpa using h2
    have hj := joinW_split 47 (cutS (w3 s 1) [47]).2.1
    obtain ⟨v, hv⟩ := List.length_eq_one_iff.1 hl
    rw [hv] at hj
    have hj : v = (cutS (w3 s 1) [47]).2.1 := hj
    have e0 : x2 s 0 = (cutS (w3 s 1) [47]).1 := by unfold x2; rw [c2]; rfl
    have e1 : x2 s 1 = (cutS (w3 s 1) [47]).2.1 := by unfold x2; rw [c2, hv, hj]; rfl
    rw [e0] at h4; rw [e1] at h5
    exact ⟨h3, c1, h4, h5, h6⟩
  · rw [c2] at h2; simp at h2
def readQ (s : List UInt8) : Pos := ⟨(nums (cutS (w3 s 1) [47]).1).1 ++ (nums (cutS (w3 s 1) [47]).2.1).1, (nums (w3 s 2)).1, (num (w3 s 0)).1⟩
theorem first_yes {s : List UInt8} (h3 : (split 32 s).length = 3) (h : first5 s) : readP0 s = if (nums (cutS (w3 s 1) [47]).1).1.length = (nums (cutS (w3 s 1) [47]).2.1).1.length then (readQ s, true) else (Pos.zero, false) := by
  have hx := first_x h
  have e0 : x2 s 0 = (cutS (w3 s 1) [47]).1 := by unfold x2; rw [hx]; rfl
  have e1 : x2 s 1 = (cutS (w3 s 1) [47]).2.1 := by unfold x2; rw [hx]; rfl
  obtain ⟨a, b, c, d, e⟩ := h
  by_cases hl : (nums (cutS (w3 s 1) [47]).1).1.length = (nums (cutS (w3 s 1) [47]).2.1).1.length
  · rw [if_pos hl]; unfold readP0 readQ
    rw [if_pos ⟨h3, by rw [hx]; rfl, a, by rw [e0]; exact c, by rw [e1]; exact d, e, by rw [e0, e1]; exact hl⟩, e0, e1]
  · rw [if_neg hl]
    exact readP0_no fun ⟨_, _, _, _, _, _, h9⟩ => hl (by rw [e0, e1] at h9; exact h9)
theorem read_text {s : List UInt8} (h3 : (split 32 s).length = 3) (h : first5 s) : s = dec (readQ s).player ++ 32 :: ((joinT (nums (cutS (w3 s 1) [47]).1).1 ++ 47 :: joinT (nums (cutS (w3 s 1) [47]).2.1).1) ++ 32 :: joinT (readQ s).stores) := by
  have hx := first_x h
  have hj := joinW_split 32 s
  have hk := joinW_split 47 (w3 s 1)
  rw [hx] at hk
  obtain ⟨w0, w1, w2, hw⟩ : ∃ w0 w1 w2, split 32 s = [w0, w1, w2] := by
    match hs : split 32 s, h3 with
    | [w0, w1, w2], _ => exact ⟨w0, w1, w2, rfl⟩
  have e0 : w3 s 0 = w0 := by unfold w3; rw [hw]; rfl
  have e1 : w3 s 1 = w1 := by unfold w3; rw [hw]; rfl
  have e2 : w3 s 2 = w2 := by unfold w3; rw [hw]; rfl
  obtain ⟨a, b, c, d, e⟩ := h
  unfold readQ
  show s = dec (num (w3 s 0)).1 ++ 32 :: ((joinT (nums (cutS (w3 s 1) [47]).1).1 ++ 47 :: joinT (nums (cutS (w3 s 1) [47]).2.1).1) ++ 32 :: joinT (nums (w3 s 2)).1)
  rw [num_dec a, nums_dec c, nums_dec d, nums_dec e]
  have hk : (cutS (w3 s 1) [47]).1 ++ 47 :: (cutS (w3 s 1) [47]).2.1 = w3 s 1 := hk
  rw [hk, e0, e1, e2]
  rw [hw] at hj
  exact hj.symm
theorem app_inj {b : UInt8} : ∀ {p q x y : List UInt8}, b ∉ p → b ∉ q → p ++ b :: x = q ++ b :: y → p = q ∧ x = y
  | [], [], x, y, _, _, h => ⟨rfl, by simpa using h⟩
  | [], c :: q, x, y, _, hq, h => by simp at h; exact absurd h.1 (fun e => hq (by simp [e]))
  | c :: p, [], x, y, hp, _, h => by simp at h; exact absurd h.1 (fun e => hp (by simp [e]))
  | c :: p, d :: q, x, y, hp, hq, h => by
    simp only [List.cons_append, List.cons.injEq] at h
    obtain ⟨rfl, h⟩ := h
    obtain ⟨h1, h2⟩ := app_inj (fun hm => hp (List.mem_cons_of_mem _ hm)) (fun hm => hq (List.mem_cons_of_mem _ hm)) h
    exact ⟨by rw [h1], h2⟩
theorem posText_eq (p : Pos) : posText p = dec p.player ++ 32 :: ((joinT (p.pits.take (p.pits.length / 2)) ++ 47 :: joinT (p.pits.drop (p.pits.length / 2))) ++ 32 :: joinT p.stores) := by
  unfold posText; simp
theorem read_same {r : Rul} {s : List UInt8} (h3 : (split 32 s).length = 3) (h : first5 s) (ho : okP r (readQ s) = true) : posText (readQ s) = s ↔ (nums (cutS (w3 s 1) [47]).1).1.length = (nums (cutS (w3 s 1) [47]).2.1).1.length := by
  have ht := read_text h3 h
  obtain ⟨a, b, c, d, e⟩ := h
  have hp : (readQ s).pits = (nums (cutS (w3 s 1) [47]).1).1 ++ (nums (cutS (w3 s 1) [47]).2.1).1 := rfl
  constructor
  · intro he
    rw [posText_eq] at he
    replace he := he.trans ht
    obtain ⟨_, he⟩ := app_inj (b := 32) (dec_no (c := 32) (.inl rfl)) (dec_no (c := 32) (.inl rfl)) he
    have nb : ∀ x y : List Int, (32 : UInt8) ∉ joinT x ++ 47 :: joinT y := fun x y hm => by
      rcases List.mem_append.1 hm with hm | hm
      · exact joinT_no (c := 32) (.inl rfl) hm
      · rcases List.mem_cons.1 hm with hm | hm
        · exact absurd hm (by decide)
        · exact joinT_no (c := 32) (.inl rfl) hm
    obtain ⟨he, _⟩ := app_inj (b := 32) (nb _ _) (nb _ _) he
    obtain ⟨he, _⟩ := app_inj (b := 47) (joinT_no (c := 47) (.inr rfl)) (joinT_no (c := 47) (.inr rfl)) he
    have hb := okP_bd ho
    have hne : (readQ s).pits.take ((readQ s).pits.length / 2) ≠ [] := fun hn => by
      have := congrArg List.length hn
      rw [List.length_take, List.length_nil] at this; omega
    have hnc : (nums (cutS (w3 s 1) [47]).1).1 ≠ [] := nums_ne (s := (cutS (w3 s 1) [47]).1) c
    have := joinT_inj_len (a := (readQ s).pits.take ((readQ s).pits.length / 2)) (b := (nums (cutS (w3 s 1) [47]).1).1) hne hnc he
    rw [List.length_take] at this
    have hl := congrArg List.length hp
    rw [List.length_append] at hl
    omega
  · intro hl
    have h2 : (readQ s).pits.length / 2 = (nums (cutS (w3 s 1) [47]).1).1.length := by rw [hp, List.length_append]; omega
    rw [posText_eq, h2, hp, List.take_left, List.drop_left]
    exact ht.symm
end Go.Proofs.YtjdhgkdimanabaaGreatDoor.M

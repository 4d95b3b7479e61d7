/- Plain mathematics: all facts of a move can be written. -/
import Derived.Test.YtjgohnaobbphpaaZaA3
import Derived.Test.YtjgohnaobbphpaaZaA2
set_option linter.unusedSimpArgs false
set_option linter.unusedVariables false
namespace Go.Proofs.Ytjgohnaobbphpaa.M
theorem sow_last (r : Rul) (pl frm : Int) (hb : r.pits ≤ 8) (hc : 2 ≤ r.pits) (hp : pl = 0 ∨ pl = 1) (f0 : 0 ≤ frm) : ∀ (n : Nat) (place : Int) (ps ss path : List Int), Good r ps ss ((n + 1 : Nat) : Int) → -1 ≤ place → place < 2 * r.pits →
    0 ≤ (sow r pl frm (n + 1) place ps ss path).1 → 1 ≤ getI (sow r pl frm (n + 1) place ps ss path).2.1 (sow r pl frm (n + 1) place ps ss path).1
  | 0, place, ps, ss, path, hG, p0, p1 => by
    have hbd := nxt_bd r (frm := frm) hb hc hp p0 f0
    have hpq := hG.pit (nxt r pl frm place)
    have hl := hG.lp
    rw [sow]
    split
    · rename_i hx; rw [sow]; intro h; have h : 0 ≤ nxt r pl frm place := h; omega
    · rename_i hx
      rw [sow]
      intro h
      show 1 ≤ getI (setI ps (nxt r pl frm place) (getI ps (nxt r pl frm place) + 1)) (nxt r pl frm place)
      rw [getI_setI_same (by omega) (by omega)]; omega
  | n + 1, place, ps, ss, path, hG, p0, p1 => by
    have hbd := nxt_bd r (frm := frm) hb hc hp p0 f0
    rw [sow]
    split
    · rename_i hx
      have hG2 := hG.putStore (k := pl) (by omega) (by omega) (by omega)
      rw [show ((n + 1 + 1 : Nat) : Int) - 1 = ((n + 1 : Nat) : Int) by omega] at hG2
      exact sow_last r pl frm hb hc hp f0 n _ _ _ _ hG2 hbd.1 hbd.2
    · rename_i hx
      have hG2 := hG.putPit (k := nxt r pl frm place) (by omega) (by omega) hbd.2
      rw [show ((n + 1 + 1 : Nat) : Int) - 1 = ((n + 1 : Nat) : Int) by omega] at hG2
      exact sow_last r pl frm hb hc hp f0 n _ _ _ _ hG2 hbd.1 hbd.2
theorem lap_last {r : Rul} {pl frm : Int} (hb : r.pits ≤ 8) (hc : 2 ≤ r.pits) (hp : pl = 0 ∨ pl = 1) (f0 : 0 ≤ frm) (f1 : frm < 2 * r.pits) {s : Sw} {path : List Int} (hG : Good r s.pits s.stores 0) (h0 : 0 < getI s.pits frm) (hl : 0 ≤ (lap r pl frm s path).1.last) :
    1 ≤ getI (lap r pl frm s path).1.pits (lap r pl frm s path).1.last := by
  have hn : (getI s.pits frm).toNat = ((getI s.pits frm).toNat - 1) + 1 := by omega
  have hG2 := hG.takeUp f0 f1
  unfold lap at hl ⊢
  dsimp only at hl ⊢
  rw [hn] at hl ⊢
  exact sow_last r pl frm hb hc hp f0 _ frm _ _ _ (by rw [show ((((getI s.pits frm).toNat - 1) + 1 : Nat) : Int) = getI s.pits frm by omega]; exact hG2) (by omega) f1 hl
theorem mvT_pit {r : Rul} {pl : Int} (hb : r.pits ≤ 8) (hc : 2 ≤ r.pits) (hp : pl = 0 ∨ pl = 1) : ∀ (n : Nat) (frm : Int) (s : Sw) (path : List Int), 0 ≤ frm → frm < 2 * r.pits → Good r s.pits s.stores 0 → 0 < getI s.pits frm → (mvT r pl n frm s path).1 = true →
    0 ≤ (mvT r pl n frm s path).2.1.last → 1 ≤ getI (mvT r pl n frm s path).2.1.pits (mvT r pl n frm s path).2.1.last
  | 0, frm, s, path, _, _, _, _, h => by simp [mvT] at h
  | n + 1, frm, s, path, f0, f1, hG, h0, h => by
    obtain ⟨ha, hb1, hc1, hd, he, hf⟩ := lap_keeps r path hb hc hp f0 f1 hG
    cases hm : more r (lap r pl frm s path).1 with
    | false => rw [mvT_no hm]; exact lap_last hb hc hp f0 f1 hG h0
    | true =>
      rw [mvT_yes hm] at h ⊢
      have hm2 := more_get hm
      exact mvT_pit hb hc hp n _ _ _ hm2.1 hc1 ha (by omega) h
theorem move_pit {r : Rul} {p : Pos} {move : Int} (hs : (sowMove r p move).1 = 0) (hl : 0 ≤ (sowMove r p move).2.1.last) : 1 ≤ getI (sowMove r p move).2.1.pits (sowMove r p move).2.1.last := by
  have hc : sowCode r p move = 0 := by
    by_cases e : sowCode r p move = 0
    · exact e
    · rw [sowMove_code e] at hs; exact hs
  obtain ⟨hok, m0, m1, hg⟩ := sowCode_ok hc
  obtain ⟨g1, g2, g3, g4, g5, g6, g7⟩ := okP_bd hok
  have hq := mul_bd g7 g1 g2
  have hT := mvT_true hs
  have := mvT_pit g2 g1 g7 100 (p.player * r.pits + move) ⟨p.pits, p.stores, 0, 0⟩ [] (by omega) (by omega) (Good.of_ok hok) hg hT
  rw [sowMove_yes hc hT] at hl ⊢
  exact this hl
theorem tt_pos {r : Rul} {pl : Int} {ps : List Int} : ∀ (n : Nat) (x : Int), x ∈ tt r pl ps n → 1 ≤ getI ps x
  | 0, x, h => by
    unfold tt at h
    split at h
    · rename_i hc
      simp at h; subst h
      simp only [ttOk, Bool.and_eq_true, betw_iff] at hc
      have h2 := hc.2; have h3 : getI ps ((0 : Nat) : Int) = getI ps 0 := rfl; omega
    · simp at h
  | n + 1, x, h => by
    unfold tt at h
    split at h
    · rename_i hc
      rcases List.mem_cons.1 h with rfl | h
      · simp only [ttOk, Bool.and_eq_true, betw_iff] at hc
        have := hc.2; omega
      · exact tt_pos n x h
    · simp at h
theorem taken_pos {r : Rul} {s : Sw} {pl : Int} (hl : 0 ≤ s.last → 1 ≤ getI s.pits s.last) {x : Int} (hx : x ∈ taken r s pl) : 1 ≤ getI s.pits x ∧ 0 ≤ s.last := by
  unfold taken at hx
  split at hx
  · simp at hx
  · rename_i h0
    have h0 : 0 ≤ s.last := by omega
    refine ⟨?_, h0⟩
    split at hx
    · exact tt_pos _ x hx
    · split at hx
      · split at hx
        · rename_i hc
          simp only [List.mem_cons, List.not_mem_nil, or_false] at hx
          rcases hx with rfl | rfl
          · omega
          · omega
        · simp at hx
      · split at hx
        · split at hx
          · simp only [List.mem_singleton] at hx
            subst hx; exact hl h0
          · simp at hx
        · simp at hx
theorem getI_other {l : List Int} {k x : Int} {v : Int} (hk : 0 ≤ k) (hx : 0 ≤ x) (hne : x ≠ k) : getI (setI l k v) x = getI l x := by
  unfold getI; exact nth_setI (by omega) hk
theorem sum_zeros : ∀ (l ps : List Int), l.Nodup → (∀ x ∈ l, 0 ≤ x ∧ x < (ps.length : Int)) → isum (l.map (getI ps)) + isum (zeros l ps) = isum ps
  | [], ps, _, _ => by simp [zeros]
  | k :: l, ps, hn, h => by
    obtain ⟨hk, hn2⟩ := List.nodup_cons.1 hn
    have hkb := h k (by simp)
    have ih := sum_zeros l (setI ps k 0) hn2 (fun x hx => by rw [setI_length]; exact h x (by simp [hx]))
    have e : l.map (getI (setI ps k 0)) = l.map (getI ps) := List.map_congr_left (fun x hx => getI_other hkb.1 (h x (by simp [hx])).1 (fun e => hk (e ▸ hx)))
    rw [e, isum_setI hkb.1 hkb.2] at ih
    rw [List.map_cons, isum_cons]
    have : zeros (k :: l) ps = zeros l (setI ps k 0) := rfl
    rw [this]; omega
theorem nn_zeros : ∀ (l ps : List Int), nn ps → nn (zeros l ps)
  | [], _, h => h
  | k :: l, ps, h => nn_zeros l (setI ps k 0) (nn_setI h k (by omega))
theorem sum_taken {r : Rul} {s : Sw} {pl : Int} (hG : Good r s.pits s.stores 0) (h1 : s.last < 2 * r.pits) : isum ((taken r s pl).map (getI s.pits)) ≤ 96 := by
  have hl := hG.lp
  have := sum_zeros (taken r s pl) s.pits (taken_nodup r s pl) (fun x hx => by have := taken_mem h1 hx; omega)
  have h2 := nn_isum (nn_zeros (taken r s pl) s.pits hG.np)
  have h3 := nn_isum hG.ns
  have h4 := hG.all
  omega
theorem isum_pos : ∀ {l : List Int}, l ≠ [] → (∀ x ∈ l, 1 ≤ x) → 1 ≤ isum l
  | [], h, _ => absurd rfl h
  | [x], _, h => by rw [isum_cons]; have := h x (by simp); show 1 ≤ x + 0; omega
  | x :: y :: l, _, h => by
    have h1 := isum_pos (l := y :: l) (by simp) (fun z hz => h z (by simp [hz]))
    have h2 := h x (by simp)
    rw [isum_cons]; omega
theorem facts_can {r : Rul} {p : Pos} {move : Int} (hm : (make r p move).2 = 0) : ∀ f ∈ factsF r p move, canW f = true := by
  have hs := make_sow0 hm
  obtain ⟨hok, m0, m1, hG, q0, q1, hsum⟩ := sowMove_ok hs
  obtain ⟨g1, g2, g3, g4, g5, g6, g7⟩ := okP_bd hok
  have hl := fun h => move_pit (r := r) (p := p) (move := move) hs h
  have htk : ∀ x ∈ taken r (sowMove r p move).2.1 p.player, 1 ≤ getI (sowMove r p move).2.1.pits x ∧ getI (sowMove r p move).2.1.pits x ≤ 96 ∧ 0 ≤ x ∧ x ≤ 15 ∧ 0 ≤ (sowMove r p move).2.1.last := fun x hx => by
    have a := taken_pos hl hx; have b := hG.pit x; have c := taken_mem q1 hx
    omega
  intro f hf
  unfold factsF at hf
  rcases List.mem_append.1 hf with hf | hf
  · rcases List.mem_append.1 hf with hf | hf
    · rcases List.mem_append.1 hf with hf | hf
      · exact (laps_fw hs f hf).can
      · unfold capF at hf
        obtain ⟨k, hk, rfl⟩ := List.mem_map.1 hf
        have hk' : k ∈ taken r (sowMove r p move).2.1 p.player := by
          unfold captured at hk; split at hk
          · simp at hk
          · exact hk
        obtain ⟨t1, t2, t3, t4, _⟩ := htk k hk'
        unfold canW
        dsimp only
        rw [if_neg (by decide), if_pos (by decide), betw_iff.2 ⟨t1, t2⟩, betw_iff.2 ⟨t3, t4⟩]; rfl
    · unfold spaF at hf
      split at hf
      · rename_i hc
        rw [List.mem_singleton.1 hf]
        have h1 := sum_taken (pl := p.player) hG q1
        have h2 : 1 ≤ isum ((taken r (sowMove r p move).2.1 p.player).map (getI (sowMove r p move).2.1.pits)) := isum_pos (by simpa using hc.2) (fun y hy => by
          obtain ⟨x, hx, rfl⟩ := List.mem_map.1 hy
          exact (htk x hx).1)
        obtain ⟨x, hx⟩ := List.exists_mem_of_ne_nil _ hc.2
        have h3 := (htk x hx).2.2.2.2
        unfold canW
        dsimp only
        rw [if_neg (by decide), if_pos (by decide), betw_iff.2 ⟨h2, h1⟩, betw_iff.2 ⟨h3, by omega⟩]; rfl
      · simp at hf
  · rw [List.mem_singleton.1 hf]
    unfold canW endF
    dsimp only
    rw [if_pos (by split <;> simp)]; rfl
theorem facts_len {r : Rul} {p : Pos} {move : Int} (hm : (make r p move).2 = 0) : (factsF r p move).length ≤ 20000 := by
  have hs := make_sow0 hm
  obtain ⟨hok, m0, m1, hG, q0, q1, hsum⟩ := sowMove_ok hs
  obtain ⟨g1, g2, g3, g4, g5, g6, g7⟩ := okP_bd hok
  have h1 := lapsF_len (r := r) (p := p) (move := move)
  have h2 := path_len hs
  have h3 := captured_len (s := (sowMove r p move).2.1) (player := p.player) q1 g2
  have h4 : (spaF r p (sowMove r p move).2.1).length ≤ 1 := by unfold spaF; split <;> simp
  unfold factsF capF
  simp only [List.length_append, List.length_map, List.length_cons, List.length_nil]; omega
section
variable {out d c : List Fct} {t : Fct} {x n : Int} {b i : Nat}
theorem sowL_new (h : out = d ++ c) : sowL (out ++ [t]) (((out ++ [t]).length : Int)).toNat x = ((d ++ c) ++ [t]) ++ addF [] x := by
  subst h
  have := sowL_at ((d ++ c) ++ [t]) [] x
  rw [List.append_nil] at this
  rw [Int.toNat_natCast]; exact this
theorem sowL_old (h : out = d ++ c) (hb : b = d.length) : sowL out ((b : Int)).toNat x = d ++ addF c x := by
  subst h; subst hb; rw [Int.toNat_natCast]; exact sowL_at d c x
theorem sowL_ge {l : List Fct} (h : b ≤ l.length) : b ≤ (sowL l ((b : Int)).toNat x).length := by
  unfold sowL; rw [Int.toNat_natCast, List.length_append, List.length_take]; omega
theorem newLen (h : out = d ++ c) : (out ++ [t]).length = ((d ++ c) ++ [t]).length := by rw [h]
end
theorem tel_miss2 {base cur F : List Fct} {g : List (Int × Int)} {x : Int} {n : Nat} (hn : F.length = n) (hF : F = base ++ cur) (h : MapF_ g (base.length : Int) cur) (hx : mhas g x = false) :
    fct (F ++ [(⟨2, x, 0⟩ : Fct)]) n = ⟨2, x, 0⟩ ∧ (F ++ [(⟨2, x, 0⟩ : Fct)]).set n ⟨2, x, 0 + 1⟩ = base ++ addF cur x ∧ MapF_ (mput g x (n : Int)) (base.length : Int) (addF cur x) := by
  subst hn; exact tel_miss hF h hx
theorem facts_end {r : Rul} {p : Pos} {move : Int} {sw : Sw} {o : List Fct} {b : Bool} (h : (make r p move).2 = 0) (hs : (sowMove r p move).2.1 = sw) (ho : o = (lapsF r p move ++ capF r p sw) ++ spaF r p sw) (hb : (make r p move).1.again = b) : factsF r p move = o ++ [endF b] := by
  subst hs; subst hb; rw [ho]; rfl
theorem FacI.len {r : Rul} {p : Pos} {frm0 frm : Int} {sw : Sw} {path : List Int} {out : List Fct} (h : FacI r p frm0 frm sw path out) : out.length ≤ 2 * path.length := by
  have : ∀ (q : List Int) (S : Lps), ((lsteps S q).done ++ (lsteps S q).cur).length ≤ (S.done ++ S.cur).length + 2 * q.length := by
    intro q
    induction q with
    | nil => intro S; exact Nat.le_refl _
    | cons x q ih =>
      intro S
      have h1 := ih (lstep S x)
      have h2 : ((lstep S x).done ++ (lstep S x).cur).length ≤ (S.done ++ S.cur).length + 2 := by
        unfold lstep
        split
        · have := addF_len [] x
          simp only [List.length_append, List.length_cons, List.length_nil] at this ⊢; omega
        · have := addF_len S.cur x
          simp only [List.length_append] at this ⊢; omega
      show ((lsteps (lstep S x) q).done ++ (lsteps (lstep S x) q).cur).length ≤ _
      rw [List.length_cons]; omega
  obtain ⟨d, c, h1, h2⟩ := h.st
  have h3 := this path (lap0 p frm0)
  rw [h1] at h3
  rw [h2]
  simpa [lap0] using h3
theorem FacI.lap' {r : Rul} {p : Pos} {frm0 frm : Int} {sw : Sw} {path : List Int} {out : List Fct} (h : FacI r p frm0 frm sw path out) (hp : 0 < getI sw.pits frm) :
    FacI r p frm0 (M.lap r p.player frm sw path).1.last (M.lap r p.player frm sw path).1 (M.lap r p.player frm sw path).2 ((out ++ [⟨1, frm, getI sw.pits frm⟩]) ++ addFs [] (((M.lap r p.player frm sw path).2.drop path.length).take ((M.lap r p.player frm sw path).2.length - path.length))) := by
  have e : ((M.lap r p.player frm sw path).2.drop path.length).take ((M.lap r p.player frm sw path).2.length - path.length) = (M.lap r p.player frm sw path).2.drop path.length := List.take_of_length_le (by rw [List.length_drop]; exact Nat.le_refl _)
  rw [e]; exact h.lap hp
theorem cap_nil {r : Rul} {p : Pos} {sw : Sw} {out : List Fct} (h : captured r sw p.player = [] ∧ taken r sw p.player ≠ []) {l : List Fct} {v : Int} (hv : v = isum ((taken r sw p.player).map (getI sw.pits))) (ho : out = l) : out ++ [⟨4, sw.last, v⟩] = l ++ spaF r p sw := by
  rw [spaF_y h.1 h.2, hv, ho]
theorem cap_non {r : Rul} {p : Pos} {sw : Sw} {out : List Fct} (h : ¬ (captured r sw p.player = [] ∧ taken r sw p.player ≠ [])) {l : List Fct} (ho : out = l) : out = l ++ spaF r p sw := by
  rw [spaF_n h, List.append_nil, ho]
theorem lap_ge (r : Rul) (pl frm : Int) (s : Sw) (path : List Int) (hp : 0 < getI s.pits frm) : path.length ≤ (M.lap r pl frm s path).2.length := by
  obtain ⟨q, h1, _⟩ := lap_steps r pl frm s path hp
  rw [h1, List.length_append]; omega
theorem nth_sm {l : List Int} {k : Nat} (h : k < l.length) : l[k]? = some (nth l k) := by simp [nth, List.getD, h]
end Go.Proofs.Ytjgohnaobbphpaa.M
namespace Go.Proofs.Ytjgohnaobbphpaa
open Go.RowKit
def RX (w : World) (R : Value → Prop) (e : Ending) (w' : World) : Prop := ∃ v, e = .returned v ∧ R v ∧ Ext w w'
section
variable {P : Program} {n lo : Nat} {B : List Nat} {Q : Exit → Act → World → Prop} {cs : List Code} {K : Act → World → Prop} {ops : Array Oper} {rest : List Oper} {l : Fr} {os os' os1 : List Own} {u : World} {ty : TypeId} {pos : String} {af : Array Edge} {gd : Option (Nat × Bool)} {dst : Option Tmp} {v : Value} {d : Nat}
end
end Go.Proofs.Ytjgohnaobbphpaa
namespace Go.Proofs.Ytjgohnaobbphpaa.M
def fkNames : List (List UInt8) := [[116, 97, 107, 101], [115, 111, 119], [99, 97, 112, 116, 117, 114, 101], [115, 112, 97, 114, 101], [97, 103, 97, 105, 110], [116, 117, 114, 110]]
section
variable {r : Rul} {p : Pos} {move code : Int}
end
theorem canW_b {f : Fct} (h : canW f = true) : 0 ≤ f.count ∧ f.count ≤ 96 ∧ -1 ≤ f.place ∧ f.place ≤ 15 := by
  unfold canW at h
  split at h
  · simp only [Bool.and_eq_true, decide_eq_true_eq] at h; omega
  · split at h
    · simp only [Bool.and_eq_true, Bool.or_eq_true, decide_eq_true_eq, betw_iff] at h; omega
    · cases h
def w3 (s : List UInt8) (i : Nat) : List UInt8 := (split 32 s).getD i []
def x2 (s : List UInt8) (i : Nat) : List UInt8 := (split 47 (w3 s 1)).getD i []
def w5 (s : List UInt8) : List UInt8 := w3 s 0 ++ [32] ++ w3 s 1 ++ [32] ++ w3 s 2
def d2 (n : Nat) : List UInt8 := if n < 10 then [UInt8.ofNat (48 + n)] else [UInt8.ofNat (48 + n / 10), UInt8.ofNat (48 + n % 10)]
theorem dec_d2 {n : Nat} (h : n < 100) : dec (n : Int) = d2 n := by
  rw [dec_in (by omega) (by omega), Lib.itoa_nonneg]
  unfold d2
  split
  · exact Lib.decDigits_one ‹_›
  · exact Lib.decDigits_two ‹_› h
theorem num_d2 : ∀ n : Fin 97, (¬ ((numT (d2 n)).length < 1 ∨ 18 < (numT (d2 n)).length)) ∧ digs (numT (d2 n)) = true ∧ numS (d2 n) = (n.val : Int) := by decide
theorem num_dec_small {n : Int} (h0 : 0 ≤ n) (h1 : n ≤ 96) : num (dec n) = (n, true) := by
  obtain ⟨m, rfl⟩ := Int.eq_ofNat_of_zero_le h0
  have hm : m < 97 := by omega
  obtain ⟨a, b, c⟩ := num_d2 ⟨m, hm⟩
  rw [dec_d2 (by omega)]
  rw [num_yes a b (by rw [c]; exact dec_d2 (by omega)), c]
def wn (s : List UInt8) (k : Nat) : List UInt8 := (split 32 s).getD k []
def kindOf (w : List UInt8) : Int := idx fkNames w + 1
def facI (s : List UInt8) : Fct :=
  if (split 32 s).length = 4 then ⟨kindOf (wn s 0), if wn s 3 = [115, 116, 111, 114, 101] then -1 else (num (wn s 3)).1, (num (wn s 1)).1⟩ else ⟨kindOf (wn s 0), 0, 0⟩
def facS (s : List UInt8) : Fct :=
  if (split 32 s).length = 4 then ⟨kindOf (wn s 0), if (num (wn s 3)).2 = true then (num (wn s 3)).1 else -1, (num (wn s 1)).1⟩ else ⟨kindOf (wn s 0), 0, 0⟩
theorem store_num : num [115, 116, 111, 114, 101] = (0, false) := by decide +kernel
theorem place_num {k : Int} (h0 : 0 ≤ k) (h1 : k ≤ 15) : num (placeT k) = (k, true) := by
  unfold placeT; rw [if_neg (by omega)]; exact num_dec_small h0 (by omega)
theorem d2_ne : ∀ n : Fin 16, d2 n ≠ [115, 116, 111, 114, 101] := by decide
theorem place_ne {k : Int} (h0 : 0 ≤ k) (h1 : k ≤ 15) : placeT k ≠ [115, 116, 111, 114, 101] := by
  obtain ⟨m, rfl⟩ := Int.eq_ofNat_of_zero_le h0
  unfold placeT; rw [if_neg (by omega), dec_d2 (by omega)]; exact d2_ne ⟨m, by omega⟩
theorem place_no {k : Int} : (32 : UInt8) ∉ placeT k := by
  unfold placeT; split
  · decide
  · exact dec_no (.inl rfl)
theorem canW_cases {f : Fct} (h : canW f = true) : (f.kind = 5 ∨ f.kind = 6) ∧ f.place = 0 ∧ f.count = 0 ∨ (f.kind = 1 ∨ f.kind = 2 ∨ f.kind = 3 ∨ f.kind = 4) ∧ 1 ≤ f.count ∧ f.count ≤ 96 ∧ (0 ≤ f.place ∧ f.place ≤ 15 ∨ f.place = -1) := by
  unfold canW at h
  split at h
  · rename_i hk
    simp only [Bool.and_eq_true, decide_eq_true_eq] at h
    exact .inl ⟨hk, h.1, h.2⟩
  · split at h
    · rename_i hk
      simp only [Bool.and_eq_true, Bool.or_eq_true, decide_eq_true_eq, betw_iff] at h
      refine .inr ⟨by omega, h.1.1, h.1.2, ?_⟩
      rcases h.2 with h | h
      · exact .inl h
      · exact .inr h.1
    · cases h
theorem split_4 {a b c d : List UInt8} (ha : (32 : UInt8) ∉ a) (hb : (32 : UInt8) ∉ b) (hc : (32 : UInt8) ∉ c) (hd : (32 : UInt8) ∉ d) : split 32 (a ++ 32 :: (b ++ 32 :: (c ++ 32 :: d))) = [a, b, c, d] := by
  rw [split_app 32 _ _ ha, split_app 32 _ _ hb, split_app 32 _ _ hc, split_last 32 _ hd]
theorem back {f : Fct} (h : canW f = true) : facI (factT0 f) = f ∧ facS (factT0 f) = f := by
  rcases canW_cases h with ⟨hk, hp, hc⟩ | ⟨hk, c0, c1, hp⟩
  · obtain ⟨k, p, c⟩ := f
    dsimp only at hk hp hc
    subst hp; subst hc
    rcases hk with rfl | rfl
    · exact ⟨by decide +kernel, by decide +kernel⟩
    · exact ⟨by decide +kernel, by decide +kernel⟩
  · have hn : num (dec f.count) = (f.count, true) := num_dec_small (by omega) c1
    have hdn : (32 : UInt8) ∉ dec f.count := dec_no (.inl rfl)
    have key : ∀ (w y : List UInt8), (32 : UInt8) ∉ w → (32 : UInt8) ∉ y → kindOf w = f.kind → factT0 f = w ++ 32 :: (dec f.count ++ 32 :: (y ++ 32 :: placeT f.place)) → facI (factT0 f) = f ∧ facS (factT0 f) = f := by
      intro w y hw hy hkk he
      have hs := split_4 hw hdn hy (place_no (k := f.place))
      rw [← he] at hs
      have e0 : wn (factT0 f) 0 = w := by unfold wn; rw [hs]; rfl
      have e1 : wn (factT0 f) 1 = dec f.count := by unfold wn; rw [hs]; rfl
      have e3 : wn (factT0 f) 3 = placeT f.place := by unfold wn; rw [hs]; rfl
      have hl : (split 32 (factT0 f)).length = 4 := by rw [hs]; rfl
      unfold facI facS
      rw [if_pos hl, if_pos hl, e0, e1, e3, hn, hkk]
      rcases hp with ⟨p0, p1⟩ | p0
      · rw [if_neg (place_ne p0 p1), place_num p0 p1, if_pos rfl]
        exact ⟨rfl, rfl⟩
      · have e : placeT f.place = [115, 116, 111, 114, 101] := by unfold placeT; rw [if_pos (by omega)]
        rw [e, if_pos rfl, store_num, if_neg (by decide)]
        have : f = ⟨f.kind, -1, f.count⟩ := by rw [← p0]
        exact ⟨this.symm, this.symm⟩
    rcases hk with e | e | e | e
    · exact key [116, 97, 107, 101] [102, 114, 111, 109] (by decide) (by decide) (by rw [e]; decide) (by unfold factT0; rw [if_pos e]; simp)
    · exact key [115, 111, 119] [105, 110, 116, 111] (by decide) (by decide) (by rw [e]; decide) (by unfold factT0; rw [if_neg (by omega), if_pos e]; simp)
    · exact key [99, 97, 112, 116, 117, 114, 101] [102, 114, 111, 109] (by decide) (by decide) (by rw [e]; decide) (by unfold factT0; rw [if_neg (by omega), if_neg (by omega), if_pos e]; simp)
    · exact key [115, 112, 97, 114, 101] [102, 114, 111, 109] (by decide) (by decide) (by rw [e]; decide) (by unfold factT0; rw [if_neg (by omega), if_neg (by omega), if_neg (by omega), if_pos e]; simp)
section
variable {s : List UInt8} {K P : Int}
end
theorem canW_p {f : Fct} {low : Int} (hk : f.kind = 1 ∨ f.kind = 2 ∨ f.kind = 3 ∨ f.kind = 4) (hl : low = if f.kind = 2 then -1 else 0) : canW f = (betw f.place low 15 && betw f.count 1 96) := by
  unfold canW
  rw [if_neg (by omega), if_pos (by omega), Bool.eq_iff_iff]
  simp only [Bool.and_eq_true, Bool.or_eq_true, decide_eq_true_eq, betw_iff]
  split at hl <;> omega
theorem canW_w {f : Fct} (hk : f.kind = 5 ∨ f.kind = 6) : canW f = (decide (f.place = 0) && decide (f.count = 0)) := if_pos hk
theorem canW_o {f : Fct} (h1 : ¬ f.kind = 1) (h2 : ¬ f.kind = 2) (h3 : ¬ f.kind = 3) (h4 : ¬ f.kind = 4) (h5 : ¬ f.kind = 5) (h6 : ¬ f.kind = 6) : canW f = false := by
  unfold canW; rw [if_neg (by omega), if_neg (by omega)]
def stOk (r : Rul) (f : Fct) : Bool := canW f && decide (f.place < 2 * r.pits) && (decide (0 ≤ f.place) || r.stores)
def stB (r : Rul) (p : Pos) (h : Int) (f : Fct) : Bool :=
  stOk r f && (if f.kind = 2 then decide (f.count ≤ h) else decide (h = 0) && (if f.kind = 1 ∨ f.kind = 3 then decide (getI p.pits f.place = f.count) else true))
def stP (p : Pos) (f : Fct) : Pos :=
  if f.kind = 1 then ⟨setI p.pits f.place 0, p.stores, p.player⟩
  else if f.kind = 2 then (if f.place < 0 then ⟨p.pits, setI p.stores p.player (getI p.stores p.player + f.count), p.player⟩ else ⟨setI p.pits f.place (getI p.pits f.place + f.count), p.stores, p.player⟩)
  else if f.kind = 3 then ⟨setI p.pits f.place 0, setI p.stores p.player (getI p.stores p.player + f.count), p.player⟩
  else if f.kind = 6 then ⟨p.pits, p.stores, 1 - p.player⟩ else p
def stH (h : Int) (f : Fct) : Int := if f.kind = 1 then f.count else if f.kind = 2 then h - f.count else h
def runF (r : Rul) : Pos → Int → List Fct → Option (Pos × Int)
  | p, h, [] => some (p, h)
  | p, h, f :: l => if stB r p h f = true then runF r (stP p f) (stH h f) l else none
theorem runF_y {r : Rul} {p : Pos} {h : Int} {f : Fct} {l : List Fct} (e : stB r p h f = true) : runF r p h (f :: l) = runF r (stP p f) (stH h f) l := by rw [runF, if_pos e]
theorem runF_n {r : Rul} {p : Pos} {h : Int} {f : Fct} {l : List Fct} (e : stB r p h f = false) : runF r p h (f :: l) = none := by rw [runF, if_neg (by simp [e])]
def apR (r : Rul) (p : Pos) (l : List Fct) : Pos × Int :=
  if okP r p = false then (Pos.zero, 1) else if 3000 < l.length then (Pos.zero, 5) else
  match runF r p 0 l with
  | none => (Pos.zero, 6)
  | some x => if x.2 = 0 then (x.1, 0) else (Pos.zero, 6)
theorem stOk_b {r : Rul} {f : Fct} (h : stOk r f = true) : canW f = true ∧ f.place < 2 * r.pits ∧ (0 ≤ f.place ∨ r.stores = true) := by
  unfold stOk at h
  simp only [Bool.and_eq_true, Bool.or_eq_true, decide_eq_true_eq] at h
  exact ⟨h.1.1, h.1.2, h.2⟩
theorem stB_ok {r : Rul} {p : Pos} {h : Int} {f : Fct} (e : stB r p h f = true) : stOk r f = true := by
  unfold stB at e; rw [Bool.and_eq_true] at e; exact e.1
theorem canW_pl {f : Fct} (h : canW f = true) : 0 ≤ f.count ∧ (f.kind = 2 ∨ 0 ≤ f.place) := by
  unfold canW at h
  split at h
  · simp only [Bool.and_eq_true, decide_eq_true_eq] at h; omega
  · split at h
    · simp only [Bool.and_eq_true, Bool.or_eq_true, decide_eq_true_eq, betw_iff] at h; omega
    · cases h
structure GP (r : Rul) (p : Pos) (h : Int) : Prop where
  g : Good r p.pits p.stores h
  pl : p.player = 0 ∨ p.player = 1
theorem GP.of {r : Rul} {p : Pos} (h : okP r p = true) : GP r p 0 := ⟨Good.of_ok h, (okP_bd h).2.2.2.2.2.2⟩
theorem Good.pitN {r : Rul} {ps ss : List Int} {n c : Int} (h : Good r ps ss n) (c0 : 0 ≤ c) (hn : c ≤ n) {k : Int} (k0 : 0 ≤ k) (k1 : k < 2 * r.pits) : Good r (setI ps k (getI ps k + c)) ss (n - c) := by
  have hl := h.lp
  have := (h.pit k).1
  exact ⟨by simpa using h.lp, h.ls, nn_setI h.np k (by omega), h.ns, by omega, by rw [isum_setI k0 (by omega)]; have := h.all; omega⟩
theorem Good.storeN {r : Rul} {ps ss : List Int} {n c : Int} (h : Good r ps ss n) (c0 : 0 ≤ c) (hn : c ≤ n) {k : Int} (k0 : 0 ≤ k) (k1 : k < 2) : Good r ps (setI ss k (getI ss k + c)) (n - c) := by
  have hl := h.ls
  have := (h.store k).1
  exact ⟨h.lp, by simpa using h.ls, h.np, nn_setI h.ns k (by omega), by omega, by rw [isum_setI k0 (by omega)]; have := h.all; omega⟩
theorem GP.step {r : Rul} {p : Pos} {h : Int} {f : Fct} (hG : GP r p h) (e : stB r p h f = true) : GP r (stP p f) (stH h f) := by
  obtain ⟨c1, c2, c3⟩ := stOk_b (stB_ok e)
  have hc := canW_pl c1
  have hp := hG.pl
  have hg := hG.g
  unfold stB at e
  rw [stB_ok (r := r) (p := p) (h := h) (f := f) (by unfold stB; exact e), Bool.true_and] at e
  unfold stP stH
  by_cases k1 : f.kind = 1
  · rw [if_neg (by omega), if_pos (.inl k1), Bool.and_eq_true] at e
    simp only [decide_eq_true_eq] at e
    obtain ⟨e1, e2⟩ := e
    subst e1
    rw [if_pos k1, if_pos k1]
    have := hg.takeUp (k := f.place) (by omega) c2
    rw [e2] at this
    exact ⟨this, hp⟩
  · rw [if_neg k1, if_neg k1]
    by_cases k2 : f.kind = 2
    · rw [if_pos k2] at e
      simp only [decide_eq_true_eq] at e
      rw [if_pos k2, if_pos k2]
      split
      · exact ⟨hg.storeN (by omega) e (by omega) (by omega), hp⟩
      · exact ⟨hg.pitN (by omega) e (by omega) c2, hp⟩
    · rw [if_neg k2, Bool.and_eq_true] at e
      obtain ⟨e1, e2⟩ := e
      simp only [decide_eq_true_eq] at e1
      subst e1
      rw [if_neg k2, if_neg k2]
      by_cases k3 : f.kind = 3
      · rw [if_pos (.inr k3)] at e2
        simp only [decide_eq_true_eq] at e2
        rw [if_pos k3, ← e2]
        exact ⟨hg.takeStep (by omega) c2 (by omega) (by omega), hp⟩
      · rw [if_neg k3]
        split
        · exact ⟨hg, by dsimp only; omega⟩
        · exact hG
structure ApI (r : Rul) (p : Pos) (l : List Fct) (k : Nat) (q : Pos) (h : Int) : Prop where
  eq : runF r p 0 l = runF r q h (l.drop k)
  g : GP r q h
theorem ApI.zero {r : Rul} {p : Pos} (l : List Fct) (h : okP r p = true) : ApI r p l 0 p 0 := ⟨rfl, GP.of h⟩
theorem drop_fct {l : List Fct} {k : Nat} (h : k < l.length) : l.drop k = fct l k :: l.drop (k + 1) := by
  rw [List.drop_eq_getElem_cons h]; unfold fct; rw [List.getD_eq_getElem?_getD, List.getElem?_eq_getElem h]; rfl
theorem ApI.step {r : Rul} {p q : Pos} {l : List Fct} {k : Nat} {h : Int} (hI : ApI r p l k q h) (hk : k < l.length) (e : stB r q h (fct l k) = true) : ApI r p l (k + 1) (stP q (fct l k)) (stH h (fct l k)) :=
  ⟨by rw [hI.eq, drop_fct hk, runF_y e], hI.g.step e⟩
theorem ApI.no {r : Rul} {p q : Pos} {l : List Fct} {k : Nat} {h : Int} (hI : ApI r p l k q h) (h0 : okP r p = true) (h1 : ¬ 3000 < l.length) (hk : k < l.length) (e : stB r q h (fct l k) = false) : apR r p l = (Pos.zero, 6) := by
  unfold apR
  rw [if_neg (by simp [h0]), if_neg h1, hI.eq, drop_fct hk, runF_n e]
theorem ApI.all {r : Rul} {p q : Pos} {l : List Fct} {k : Nat} {h : Int} (hI : ApI r p l k q h) (h0 : okP r p = true) (h1 : ¬ 3000 < l.length) (hk : ¬ k < l.length) : apR r p l = if h = 0 then (q, 0) else (Pos.zero, 6) := by
  unfold apR
  rw [if_neg (by simp [h0]), if_neg h1, hI.eq, List.drop_eq_nil_of_le (by omega)]
  rfl
theorem apR_1 {r : Rul} {p : Pos} {l : List Fct} (h : okP r p = false) : apR r p l = (Pos.zero, 1) := if_pos h
theorem apR_5 {r : Rul} {p : Pos} {l : List Fct} (h : okP r p = true) (h1 : 3000 < l.length) : apR r p l = (Pos.zero, 5) := by unfold apR; rw [if_neg (by simp [h]), if_pos h1]
def addI (l : List Int) (i c : Int) : List Int := setI l i (getI l i + c)
theorem addI_get (l : List Int) (i c : Int) (k : Nat) : (addI l i c)[k]? = if i.toNat = k then l[k]?.map (· + c) else l[k]? := by
  unfold addI setI getI nth
  rw [List.getElem?_set]
  split
  · rename_i e
    subst e
    split
    · rename_i h
      rw [List.getD_eq_getElem?_getD, List.getElem?_eq_getElem h]; rfl
    · rename_i h
      rw [List.getElem?_eq_none (by omega)]; rfl
  · rfl
theorem addI_comm (l : List Int) (i j c d : Int) : addI (addI l i c) j d = addI (addI l j d) i c := by
  apply List.ext_getElem?
  intro k
  rw [addI_get, addI_get, addI_get, addI_get]
  split
  · split
    · rw [Option.map_map, Option.map_map]
      congr 1; funext x; simp only [Function.comp]; omega
    · rfl
  · rfl
theorem addI_add (l : List Int) (i c d : Int) : addI (addI l i c) i d = addI l i (c + d) := by
  apply List.ext_getElem?
  intro k
  rw [addI_get, addI_get, addI_get]
  split
  · rw [Option.map_map]
    congr 1; funext x; simp only [Function.comp]; omega
  · rfl
def putF (pl : Int) (S : List Int × List Int) (x c : Int) : List Int × List Int := if x < 0 then (S.1, addI S.2 pl c) else (addI S.1 x c, S.2)
theorem putF_comm (pl : Int) (S : List Int × List Int) (x y c d : Int) : putF pl (putF pl S x c) y d = putF pl (putF pl S y d) x c := by
  unfold putF
  split
  · split
    · dsimp only; rw [addI_comm]
    · rfl
  · split
    · rfl
    · dsimp only; rw [addI_comm]
theorem putF_add (pl : Int) (S : List Int × List Int) (x c d : Int) : putF pl (putF pl S x c) x d = putF pl S x (c + d) := by
  unfold putF
  split
  · dsimp only; rw [addI_add]
  · dsimp only; rw [addI_add]
def putFs (pl : Int) (l : List Fct) (S : List Int × List Int) : List Int × List Int := l.foldl (fun S f => putF pl S f.place f.count) S
def put1s (pl : Int) (q : List Int) (S : List Int × List Int) : List Int × List Int := q.foldl (fun S x => putF pl S x 1) S
theorem putFs_put (pl : Int) : ∀ (l : List Fct) (S : List Int × List Int) (x c : Int), putFs pl l (putF pl S x c) = putF pl (putFs pl l S) x c
  | [], S, x, c => rfl
  | f :: l, S, x, c => by
    show putFs pl l (putF pl (putF pl S x c) f.place f.count) = putF pl (putFs pl l (putF pl S f.place f.count)) x c
    rw [putF_comm, putFs_put pl l]
theorem putFs_addF (pl : Int) : ∀ (l : List Fct) (S : List Int × List Int) (x : Int), putFs pl (addF l x) S = putF pl (putFs pl l S) x 1
  | [], S, x => rfl
  | f :: l, S, x => by
    rw [addF]
    split
    · rename_i e
      show putFs pl l (putF pl S f.place (f.count + 1)) = putF pl (putFs pl l (putF pl S f.place f.count)) x 1
      rw [← putFs_put, ← e, putF_add]
    · show putFs pl (addF l x) (putF pl S f.place f.count) = putF pl (putFs pl l (putF pl S f.place f.count)) x 1
      exact putFs_addF pl l _ x
theorem putFs_addFs (pl : Int) : ∀ (q : List Int) (l : List Fct) (S : List Int × List Int), putFs pl (addFs l q) S = put1s pl q (putFs pl l S)
  | [], l, S => rfl
  | x :: q, l, S => by
    show putFs pl (addFs (addF l x) q) S = put1s pl q (putF pl (putFs pl l S) x 1)
    rw [putFs_addFs pl q, putFs_addF]
theorem nxt_store {r : Rul} {pl frm place : Int} (hc : 2 ≤ r.pits) (h : nxt r pl frm place < 0) : r.stores = true := by
  have a : ∀ x : Int, 0 ≤ x % (2 * r.pits) := fun x => Int.emod_nonneg _ (by omega)
  have b : ∀ y, after r pl y < 0 → r.stores = true := fun y hy => by
    unfold after at hy
    split at hy
    · rename_i e; exact e.2
    · split at hy
      · have := a ((pl + 1) * r.pits); omega
      · have := a (y + 1); omega
  unfold nxt at h
  split at h
  · exact b _ h
  · exact b _ h
theorem sow_put (r : Rul) {pl frm : Int} (hb : r.pits ≤ 8) (hc : 2 ≤ r.pits) (hp : pl = 0 ∨ pl = 1) (f0 : 0 ≤ frm) : ∀ (n : Nat) (place : Int) (ps ss path : List Int), -1 ≤ place →
    ∃ q, (sow r pl frm n place ps ss path).2.2.2 = path ++ q ∧ put1s pl q (ps, ss) = ((sow r pl frm n place ps ss path).2.1, (sow r pl frm n place ps ss path).2.2.1) ∧
      ∀ x ∈ q, -1 ≤ x ∧ x < 2 * r.pits ∧ (0 ≤ x ∨ r.stores = true)
  | 0, place, ps, ss, path, _ => ⟨[], by simp [sow], rfl, by simp⟩
  | n + 1, place, ps, ss, path, p0 => by
    have hbd := nxt_bd r (frm := frm) hb hc hp p0 f0
    rw [sow]
    split
    · rename_i hx
      obtain ⟨q, h1, h2, h3⟩ := sow_put r hb hc hp f0 n (nxt r pl frm place) ps (setI ss pl (getI ss pl + 1)) (path ++ [nxt r pl frm place]) hbd.1
      refine ⟨nxt r pl frm place :: q, by rw [h1]; simp, ?_, fun x hx2 => ?_⟩
      · show put1s pl q (putF pl (ps, ss) (nxt r pl frm place) 1) = _
        rw [← h2]; unfold putF; rw [if_pos hx]; rfl
      · rcases List.mem_cons.1 hx2 with rfl | hx2
        · exact ⟨hbd.1, hbd.2, .inr (nxt_store hc hx)⟩
        · exact h3 x hx2
    · rename_i hx
      obtain ⟨q, h1, h2, h3⟩ := sow_put r hb hc hp f0 n (nxt r pl frm place) (setI ps (nxt r pl frm place) (getI ps (nxt r pl frm place) + 1)) ss (path ++ [nxt r pl frm place]) hbd.1
      refine ⟨nxt r pl frm place :: q, by rw [h1]; simp, ?_, fun x hx2 => ?_⟩
      · show put1s pl q (putF pl (ps, ss) (nxt r pl frm place) 1) = _
        rw [← h2]; unfold putF; rw [if_neg hx]; rfl
      · rcases List.mem_cons.1 hx2 with rfl | hx2
        · exact ⟨hbd.1, hbd.2, .inl (by omega)⟩
        · exact h3 x hx2
def sumC (l : List Fct) : Int := isum (l.map (·.count))
theorem sumC_cons (f : Fct) (l : List Fct) : sumC (f :: l) = f.count + sumC l := by unfold sumC; rw [List.map_cons, isum_cons]
theorem sumC_addF : ∀ (l : List Fct) (x : Int), sumC (addF l x) = sumC l + 1
  | [], x => by rw [addF, sumC_cons]; show (1 : Int) + sumC [] = _; omega
  | f :: l, x => by
    rw [addF]
    split
    · rw [sumC_cons, sumC_cons]; dsimp only; omega
    · rw [sumC_cons, sumC_cons, sumC_addF l x]; omega
theorem sumC_addFs : ∀ (q : List Int) (l : List Fct), sumC (addFs l q) = sumC l + (q.length : Int)
  | [], l => by show sumC l = _; simp
  | x :: q, l => by
    show sumC (addFs (addF l x) q) = _
    rw [sumC_addFs q, sumC_addF, List.length_cons]; omega
theorem addF_mem : ∀ {l : List Fct} {x : Int} {f : Fct}, f ∈ addF l x → (∃ g ∈ l, f.kind = g.kind ∧ f.place = g.place) ∨ (f.kind = 2 ∧ f.place = x)
  | [], x, f, h => by rw [addF, List.mem_singleton] at h; subst h; exact .inr ⟨rfl, rfl⟩
  | g :: l, x, f, h => by
    rw [addF] at h
    split at h
    · rcases List.mem_cons.1 h with rfl | h
      · exact .inl ⟨g, by simp, rfl, rfl⟩
      · exact .inl ⟨f, by simp [h], rfl, rfl⟩
    · rcases List.mem_cons.1 h with rfl | h
      · exact .inl ⟨f, by simp, rfl, rfl⟩
      · rcases addF_mem h with ⟨k, hk, a⟩ | a
        · exact .inl ⟨k, by simp [hk], a⟩
        · exact .inr a
theorem addFs_mem : ∀ {q : List Int} {l : List Fct} {f : Fct}, f ∈ addFs l q → (∃ g ∈ l, f.kind = g.kind ∧ f.place = g.place) ∨ (f.kind = 2 ∧ f.place ∈ q)
  | [], l, f, h => .inl ⟨f, h, rfl, rfl⟩
  | x :: q, l, f, h => by
    rcases addFs_mem (q := q) (l := addF l x) h with ⟨g, hg, a, b⟩ | ⟨a, b⟩
    · rcases addF_mem hg with ⟨k, hk, c, d⟩ | ⟨c, d⟩
      · exact .inl ⟨k, hk, by rw [a, c], by rw [b, d]⟩
      · exact .inr ⟨by rw [a, c], by rw [b, d]; simp⟩
    · exact .inr ⟨a, by simp [b]⟩
theorem addF_places : ∀ (l : List Fct) (x : Int), (addF l x).map (·.place) = if x ∈ l.map (·.place) then l.map (·.place) else l.map (·.place) ++ [x]
  | [], x => rfl
  | f :: l, x => by
    rw [addF]
    split
    · rename_i e
      subst e
      simp
    · rename_i e
      rw [List.map_cons, addF_places l x]
      have : (x ∈ (f :: l).map (·.place)) ↔ x ∈ l.map (·.place) := by
        rw [List.map_cons, List.mem_cons]
        exact ⟨fun h => h.elim (fun h => absurd h.symm e) id, .inr⟩
      by_cases hx : x ∈ l.map (·.place)
      · rw [if_pos hx, if_pos (this.2 hx)]; rfl
      · rw [if_neg hx, if_neg (fun h => hx (this.1 h))]; rfl
theorem nodup_snoc {l : List Int} {x : Int} (h : l.Nodup) (hx : x ∉ l) : (l ++ [x]).Nodup := by
  rw [List.nodup_append]
  refine ⟨h, by simp, fun a ha b hb => ?_⟩
  rw [List.mem_singleton.1 hb]
  exact fun e => hx (e ▸ ha)
theorem addFs_nodup : ∀ (q : List Int) (l : List Fct), (l.map (·.place)).Nodup → ((addFs l q).map (·.place)).Nodup
  | [], l, h => h
  | x :: q, l, h => by
    refine addFs_nodup q (addF l x) ?_
    rw [addF_places]
    split
    · exact h
    · rename_i hx; exact nodup_snoc h hx
theorem nodup_bd : ∀ (n : Nat) (l : List Int), l.Nodup → (∀ x ∈ l, 0 ≤ x ∧ x < (n : Int)) → l.length ≤ n
  | 0, l, _, hb => by
    cases l with
    | nil => simp
    | cons x l => exact absurd (hb x (by simp)) (by omega)
  | n + 1, l, h, hb => by
    have h1 : (l.erase (n : Int)).Nodup := h.erase _
    have h2 : ∀ x ∈ l.erase (n : Int), 0 ≤ x ∧ x < (n : Int) := fun x hx => by
      have h3 := (h.mem_erase_iff).1 hx
      have h4 := hb x h3.2
      have h5 : x ≠ (n : Int) := h3.1
      omega
    have h3 := nodup_bd n _ h1 h2
    have h4 : l.length ≤ (l.erase (n : Int)).length + 1 := by rw [List.length_erase]; split <;> omega
    omega
theorem lap_len {q : List Int} {n : Int} (hn : n ≤ 16) (h : ∀ x ∈ q, -1 ≤ x ∧ x < n) : (addFs [] q).length ≤ 17 := by
  have h1 := addFs_nodup q [] (by simp)
  have h2 : (((addFs [] q).map (·.place)).map (· + 1)).Nodup := by
    unfold List.Nodup at h1 ⊢
    rw [List.pairwise_map]
    exact h1.imp (fun h e => h (by omega))
  have h3 := nodup_bd 17 _ h2 (fun x hx => by
    obtain ⟨y, hy, rfl⟩ := List.mem_map.1 hx
    obtain ⟨f, hf, rfl⟩ := List.mem_map.1 hy
    rcases addFs_mem hf with ⟨g, hg, _⟩ | ⟨_, hm⟩
    · simp at hg
    · have := h _ hm; omega)
  simpa using h3
theorem run_sows {r : Rul} {pl : Int} (rest : List Fct) : ∀ (l : List Fct) (ps ss : List Int) (h : Int), (∀ f ∈ l, f.kind = 2 ∧ stOk r f = true) → sumC l ≤ h →
    runF r ⟨ps, ss, pl⟩ h (l ++ rest) = runF r ⟨(putFs pl l (ps, ss)).1, (putFs pl l (ps, ss)).2, pl⟩ (h - sumC l) rest
  | [], ps, ss, h, _, _ => by
    show runF r ⟨ps, ss, pl⟩ h rest = runF r ⟨ps, ss, pl⟩ (h - 0) rest
    rw [Int.sub_zero]
  | f :: l, ps, ss, h, hl, hs => by
    have hp : 0 ≤ sumC l := by
      refine nn_isum (fun x hx => ?_)
      obtain ⟨g, hg, rfl⟩ := List.mem_map.1 hx
      have := canW_b (stOk_b (hl g (by simp [hg])).2).1
      omega
    obtain ⟨hk, ho⟩ := hl f (by simp)
    rw [sumC_cons] at hs ⊢
    have e : stB r ⟨ps, ss, pl⟩ h f = true := by
      unfold stB
      rw [ho, if_pos hk, decide_eq_true (by omega)]; rfl
    rw [List.cons_append, runF_y e]
    have e2 : stH h f = h - f.count := by unfold stH; rw [if_neg (by omega), if_pos hk]
    have e3 : stP ⟨ps, ss, pl⟩ f = ⟨(putF pl (ps, ss) f.place f.count).1, (putF pl (ps, ss) f.place f.count).2, pl⟩ := by
      unfold stP putF
      rw [if_neg (by omega), if_pos hk]
      split
      · rfl
      · rfl
    rw [e2, e3, run_sows rest l _ _ _ (fun g hg => hl g (by simp [hg])) (by omega)]
    rw [show h - f.count - sumC l = h - (f.count + sumC l) by omega]
    rfl
def sowN : List Fct → Int
  | [] => 0
  | f :: l => (if f.kind = 2 then f.count else 0) + sowN l
theorem sowN_app : ∀ (a b : List Fct), sowN (a ++ b) = sowN a + sowN b
  | [], b => by show sowN b = 0 + sowN b; omega
  | f :: a, b => by rw [List.cons_append, sowN, sowN, sowN_app a b]; omega
theorem sowN_sum : ∀ {l : List Fct}, (∀ f ∈ l, f.kind = 2) → sowN l = sumC l
  | [], _ => rfl
  | f :: l, h => by rw [sowN, sumC_cons, if_pos (h f (by simp)), sowN_sum (fun g hg => h g (by simp [hg]))]
theorem sowN_no : ∀ {l : List Fct}, (∀ f ∈ l, f.kind ≠ 2) → sowN l = 0
  | [], _ => rfl
  | f :: l, h => by rw [sowN, if_neg (h f (by simp)), sowN_no (fun g hg => h g (by simp [hg]))]; rfl
theorem addFs_kind {q : List Int} {f : Fct} (h : f ∈ addFs [] q) : f.kind = 2 ∧ f.place ∈ q := by
  rcases addFs_mem h with ⟨g, hg, _⟩ | h
  · simp at hg
  · exact h
theorem lap_run {r : Rul} {pl frm : Int} (hb : r.pits ≤ 8) (hc : 2 ≤ r.pits) (hp : pl = 0 ∨ pl = 1) (f0 : 0 ≤ frm) (f1 : frm < 2 * r.pits) {s : Sw} (path : List Int) (h0 : 0 < getI s.pits frm) :
    ∃ q, (lap r pl frm s path).2 = path ++ q ∧ (q.length : Int) = getI s.pits frm ∧ (addFs [] q).length ≤ 17 ∧
      (∀ (d c : List Fct), lsteps ⟨s.pits, frm, 0, d, c⟩ q = ⟨(lap r pl frm s path).1.pits, (lap r pl frm s path).1.last, 0, (d ++ c) ++ [⟨1, frm, getI s.pits frm⟩], addFs [] q⟩) ∧
      (canW ⟨1, frm, getI s.pits frm⟩ = true → (∀ f ∈ addFs [] q, canW f = true) → ∀ rest, runF r ⟨s.pits, s.stores, pl⟩ 0 ((⟨1, frm, getI s.pits frm⟩ :: addFs [] q) ++ rest) =
        runF r ⟨(lap r pl frm s path).1.pits, (lap r pl frm s path).1.stores, pl⟩ 0 rest) := by
  obtain ⟨q, h1, h2, h3⟩ := lap_steps r pl frm s path h0
  obtain ⟨q2, k1, k2, k3⟩ := sow_put r hb hc hp f0 (getI s.pits frm).toNat frm (setI s.pits frm 0) s.stores path (by omega)
  have e : q2 = q := by
    have : (lap r pl frm s path).2 = path ++ q2 := k1
    rw [h1] at this
    exact (List.append_cancel_left this).symm
  subst e
  refine ⟨q2, h1, h2, lap_len (n := 2 * r.pits) (by omega) (fun x hx => ⟨(k3 x hx).1, (k3 x hx).2.1⟩), h3, fun hw hW rest => ?_⟩
  have e1 : stB r ⟨s.pits, s.stores, pl⟩ 0 ⟨1, frm, getI s.pits frm⟩ = true := by
    unfold stB stOk
    rw [hw]
    dsimp only
    rw [if_neg (by decide), if_pos (.inl rfl), decide_eq_true f1, decide_eq_true f0, decide_eq_true rfl, decide_eq_true rfl]; rfl
  rw [List.cons_append, runF_y e1]
  show runF r ⟨setI s.pits frm 0, s.stores, pl⟩ (getI s.pits frm) (addFs [] q2 ++ rest) = _
  have hS : sumC (addFs [] q2) = getI s.pits frm := by rw [sumC_addFs]; show (0 : Int) + _ = _; omega
  rw [run_sows rest (addFs [] q2) _ _ _ (fun f hf => by
    obtain ⟨a, b⟩ := addFs_kind hf
    refine ⟨a, ?_⟩
    obtain ⟨c1, c2, c3⟩ := k3 _ b
    unfold stOk
    rw [hW f hf, decide_eq_true c2]
    rcases c3 with c3 | c3
    · rw [decide_eq_true c3]; rfl
    · rw [c3]; simp) (by omega), hS, putFs_addFs]
  show runF r ⟨(put1s pl q2 (setI s.pits frm 0, s.stores)).1, (put1s pl q2 (setI s.pits frm 0, s.stores)).2, pl⟩ _ rest = _
  rw [k2, Int.sub_self]
  rfl
theorem mvT_run {r : Rul} {pl : Int} (hb : r.pits ≤ 8) (hc : 2 ≤ r.pits) (hp : pl = 0 ∨ pl = 1) : ∀ (n : Nat) (frm : Int) (s : Sw) (path : List Int), 0 ≤ frm → frm < 2 * r.pits → Good r s.pits s.stores 0 → 0 < getI s.pits frm → (mvT r pl n frm s path).1 = true →
    ∃ q F, (mvT r pl n frm s path).2.2 = path ++ q ∧ (∀ (d c : List Fct), (lsteps ⟨s.pits, frm, 0, d, c⟩ q).done ++ (lsteps ⟨s.pits, frm, 0, d, c⟩ q).cur = (d ++ c) ++ F) ∧ sowN F = (q.length : Int) ∧ F.length ≤ 18 * n ∧
      ((∀ f ∈ F, canW f = true) → ∀ rest, runF r ⟨s.pits, s.stores, pl⟩ 0 (F ++ rest) = runF r ⟨(mvT r pl n frm s path).2.1.pits, (mvT r pl n frm s path).2.1.stores, pl⟩ 0 rest)
  | 0, frm, s, path, _, _, _, _, h => by simp [mvT] at h
  | n + 1, frm, s, path, f0, f1, hG, h0, h => by
    obtain ⟨q1, a1, a2, a3, a4, a5⟩ := lap_run hb hc hp f0 f1 (s := s) path h0
    obtain ⟨ha, hb1, hc1, hd, he, hf⟩ := lap_keeps r path hb hc hp f0 f1 hG
    have hS : sowN (⟨1, frm, getI s.pits frm⟩ :: addFs [] q1) = (q1.length : Int) := by
      rw [sowN, if_neg (by dsimp only; decide), sowN_sum (fun f hf => (addFs_kind hf).1), sumC_addFs]
      show (0 : Int) + (0 + _) = _; omega
    cases hm : more r (lap r pl frm s path).1 with
    | false =>
      rw [mvT_no hm]
      refine ⟨q1, ⟨1, frm, getI s.pits frm⟩ :: addFs [] q1, a1, fun d c => ?_, hS, ?_, fun hW rest => ?_⟩
      · rw [a4 d c]; simp
      · rw [List.length_cons]; omega
      · exact a5 (hW _ (by simp)) (fun f hf => hW f (by simp [hf])) rest
    | true =>
      rw [mvT_yes hm] at h ⊢
      have hm2 := more_get hm
      obtain ⟨q2, F, b1, b2, b3, b4, b5⟩ := mvT_run hb hc hp n _ _ _ hm2.1 hc1 ha (by omega) h
      refine ⟨q1 ++ q2, (⟨1, frm, getI s.pits frm⟩ :: addFs [] q1) ++ F, by rw [b1, a1, List.append_assoc], fun d c => ?_, ?_, ?_, fun hW rest => ?_⟩
      · rw [lsteps_app, a4 d c, b2]; simp
      · rw [sowN_app, hS, b3, List.length_append]; omega
      · rw [List.length_append, List.length_cons]; omega
      · rw [List.append_assoc, a5 (hW _ (by simp)) (fun f hf => hW f (by simp [hf])), b5 (fun f hf => hW f (by simp [hf]))]
theorem run_caps {r : Rul} {pl : Int} (rest : List Fct) (s0 : List Int) : ∀ (l ps ss : List Int), l.Nodup → (∀ k ∈ l, 0 ≤ k ∧ getI ps k = getI s0 k) → (∀ k ∈ l, stOk r ⟨3, k, getI s0 k⟩ = true) →
    runF r ⟨ps, ss, pl⟩ 0 (l.map (fun k => ⟨3, k, getI s0 k⟩) ++ rest) = runF r ⟨(takeL pl l ps ss).1, (takeL pl l ps ss).2, pl⟩ 0 rest
  | [], ps, ss, _, _, _ => rfl
  | k :: l, ps, ss, hn, hg, ho => by
    obtain ⟨n1, n2⟩ := List.nodup_cons.1 hn
    obtain ⟨k0, hk⟩ := hg k (by simp)
    have e : stB r ⟨ps, ss, pl⟩ 0 ⟨3, k, getI s0 k⟩ = true := by
      unfold stB
      rw [ho k (by simp)]
      dsimp only
      rw [if_neg (by decide), if_pos (.inr rfl), decide_eq_true rfl, decide_eq_true hk]; rfl
    rw [List.map_cons, List.cons_append, runF_y e]
    show runF r ⟨setI ps k 0, setI ss pl (getI ss pl + getI s0 k), pl⟩ 0 _ = _
    rw [run_caps rest s0 l _ _ n2 (fun j hj => ⟨(hg j (by simp [hj])).1, by rw [getI_setI_other k0 (hg j (by simp [hj])).1 (fun e => n1 (e ▸ hj))]; exact (hg j (by simp [hj])).2⟩) (fun j hj => ho j (by simp [hj])), ← hk]
    rfl
theorem facts_run {r : Rul} {p : Pos} {move : Int} (hm : (make r p move).2 = 0) :
    apR r p (factsF r p move) = ((make r p move).1.next, 0) ∧ sowN (factsF r p move) = ((sowMove r p move).2.2.length : Int) ∧ (factsF r p move).length ≤ 3000 := by
  have hw := facts_can hm
  have hd : (done r p move).2 = 0 := by rw [← make_code]; exact hm
  obtain ⟨hs, hdt⟩ := done_ok hd
  obtain ⟨hok, m0, m1, hG, q0, q1, hsum⟩ := sowMove_ok hs
  obtain ⟨g1, g2, g3, g4, g5, g6, g7⟩ := okP_bd hok
  have hq := mul_bd g7 g1 g2
  have hc : sowCode r p move = 0 := by
    by_cases e : sowCode r p move = 0
    · exact e
    · rw [sowMove_code e] at hs; exact absurd hs e
  have hT := mvT_true hs
  obtain ⟨q, F, b1, b2, b3, b4, b5⟩ := mvT_run g2 g1 g7 100 (p.player * r.pits + move) ⟨p.pits, p.stores, 0, 0⟩ [] (by omega) (by omega) (Good.of_ok hok) (sowCode_ok hc).2.2.2 hT
  have e := sowMove_yes hc hT
  have eL : lapsF r p move = F := by
    unfold lapsF lap0
    rw [e]
    dsimp only
    rw [b1, List.nil_append]
    exact b2 [] []
  have eq : (sowMove r p move).2.2 = q := by rw [e]; dsimp only; rw [b1, List.nil_append]
  have hcl := captured_len (s := (sowMove r p move).2.1) (player := p.player) q1 g2
  have hsl : (spaF r p (sowMove r p move).2.1).length ≤ 1 := by unfold spaF; split <;> simp
  have hlen : (factsF r p move).length ≤ 3000 := by
    unfold factsF capF
    rw [eL]
    simp only [List.length_append, List.length_map, List.length_cons, List.length_nil]; omega
  have hsn : sowN (factsF r p move) = ((sowMove r p move).2.2.length : Int) := by
    unfold factsF
    rw [sowN_app, sowN_app, sowN_app, eL, b3, eq]
    rw [sowN_no (l := capF r p (sowMove r p move).2.1) (fun f hf => by
      unfold capF at hf; obtain ⟨k, _, rfl⟩ := List.mem_map.1 hf; dsimp only; decide)]
    rw [sowN_no (l := spaF r p (sowMove r p move).2.1) (fun f hf => by
      unfold spaF at hf; split at hf
      · rw [List.mem_singleton.1 hf]; dsimp only; decide
      · simp at hf)]
    rw [sowN_no (l := [endF (make r p move).1.again]) (fun f hf => by
      rw [List.mem_singleton.1 hf]; unfold endF; dsimp only; split <;> decide)]
    omega
  refine ⟨?_, hsn, hlen⟩
  have hF : ∀ f ∈ F, canW f = true := fun f hf => hw f (by unfold factsF; rw [eL]; simp [hf])
  have hC : ∀ f ∈ capF r p (sowMove r p move).2.1, canW f = true := fun f hf => hw f (by unfold factsF; simp [hf])
  have hP : ∀ f ∈ spaF r p (sowMove r p move).2.1, canW f = true := fun f hf => hw f (by unfold factsF; simp [hf])
  have hE : canW (endF (make r p move).1.again) = true := hw _ (by unfold factsF; simp)
  have eS : (sowMove r p move).2.1 = (mvT r p.player 100 (p.player * r.pits + move) ⟨p.pits, p.stores, 0, 0⟩ []).2.1 := by rw [e]
  have ep : p = ⟨p.pits, p.stores, p.player⟩ := rfl
  have hrun : runF r p 0 (factsF r p move) = some ((make r p move).1.next, 0) := by
    unfold factsF
    rw [eL, List.append_assoc, List.append_assoc]
    have h5 := b5 hF (capF r p (sowMove r p move).2.1 ++ (spaF r p (sowMove r p move).2.1 ++ [endF (make r p move).1.again]))
    rw [← eS] at h5
    refine Eq.trans h5 ?_
    unfold capF
    rw [run_caps _ (sowMove r p move).2.1.pits (captured r (sowMove r p move).2.1 p.player) _ _ (captured_nodup _ _ _) (fun k hk => ⟨(captured_mem q1 hk).1, rfl⟩) (fun k hk => by
      have h6 := captured_mem q1 hk
      unfold stOk
      rw [hC ⟨3, k, getI (sowMove r p move).2.1.pits k⟩ (List.mem_map.2 ⟨k, hk, rfl⟩)]
      dsimp only
      rw [decide_eq_true h6.1, decide_eq_true h6.2]; rfl), take_eq q1 (by omega) (by have := hG.ls; omega), ← hdt]
    dsimp only
    have hspa : runF r ⟨(done r p move).1.pits, (done r p move).1.stores, p.player⟩ 0 (spaF r p (sowMove r p move).2.1 ++ [endF (make r p move).1.again]) = runF r ⟨(done r p move).1.pits, (done r p move).1.stores, p.player⟩ 0 [endF (make r p move).1.again] := by
      cases hx : spaF r p (sowMove r p move).2.1 with
      | nil => rfl
      | cons f l =>
        have hf := hP f (by rw [hx]; simp)
        unfold spaF at hx
        split at hx
        · injection hx with hx1 hx2
          subst hx2
          subst hx1
          have hb := canW_pl hf
          dsimp only at hb
          have e1 : stB r ⟨(done r p move).1.pits, (done r p move).1.stores, p.player⟩ 0 ⟨4, (sowMove r p move).2.1.last, isum ((taken r (sowMove r p move).2.1 p.player).map (getI (sowMove r p move).2.1.pits))⟩ = true := by
            unfold stB stOk
            rw [hf]
            dsimp only
            rw [if_neg (by decide), if_neg (by decide), decide_eq_true q1, decide_eq_true (show 0 ≤ (sowMove r p move).2.1.last by omega)]; rfl
          rw [List.cons_append, runF_y e1]
          rfl
        · simp at hx
    rw [hspa]
    have hmk := make_yes hd
    have hag : (make r p move).1.again = (r.again && decide ((done r p move).1.last = -1)) := by rw [hmk]; rfl
    have hnx : (make r p move).1.next = ⟨(done r p move).1.pits, (done r p move).1.stores, if (make r p move).1.again = true then p.player else 1 - p.player⟩ := by rw [hag, hmk]; rfl
    have e1 : stB r ⟨(done r p move).1.pits, (done r p move).1.stores, p.player⟩ 0 (endF (make r p move).1.again) = true := by
      unfold stB stOk
      rw [hE]
      have ek : (endF (make r p move).1.again).kind = 5 ∨ (endF (make r p move).1.again).kind = 6 := by unfold endF; dsimp only; split <;> simp
      have ep : (endF (make r p move).1.again).place = 0 := rfl
      rw [if_neg (by omega), if_neg (by omega), ep, decide_eq_true (show (0 : Int) < 2 * r.pits by omega)]; rfl
    rw [runF_y e1, runF, hnx]
    cases (make r p move).1.again with
    | true => rfl
    | false => rfl
  unfold apR
  rw [if_neg (by simp [hok]), if_neg (by omega), hrun]
  rfl
def lsP (r : Rul) (p : Pos) (h : Int) (f : Fct) : Pos := if stB r p h f = true then stP p f else if stOk r f = true ∧ f.kind = 6 then stP p f else p
def hasP (r : Rul) (f : Fct) : Bool := decide (f.kind = 5) || decide (f.kind = 6) || betw f.place 0 (2 * r.pits - 1) || (decide (f.place = -1) && r.stores)
theorem hasP_ok {r : Rul} {f : Fct} (h : canW f = true) (h2 : 2 ≤ r.pits) : hasP r f = stOk r f := by
  have hc := canW_cases h
  unfold hasP stOk
  rw [h, Bool.eq_iff_iff]
  simp only [Bool.and_eq_true, Bool.or_eq_true, decide_eq_true_eq, true_and, betw_iff]
  constructor
  · rintro (((h1 | h1) | ⟨h1, h3⟩) | ⟨h1, h3⟩)
    · omega
    · omega
    · exact ⟨by omega, .inl h1⟩
    · exact ⟨by omega, .inr h3⟩
  · rintro ⟨h1, h3⟩
    by_cases e : 0 ≤ f.place
    · exact .inl (.inr ⟨e, by omega⟩)
    · exact .inr ⟨by omega, h3.resolve_left e⟩
theorem stOk_n {r : Rul} {f : Fct} (h : canW f = false) : stOk r f = false := by unfold stOk; rw [h]; rfl
def apP (r : Rul) (p : Pos) (h : Int) (f : Fct) : Pos := if stB r p h f = true then stP p f else p
def apH (r : Rul) (p : Pos) (h : Int) (f : Fct) : Int := if stB r p h f = true then stH h f else h
theorem ap_n {r : Rul} {p : Pos} {h : Int} {f : Fct} (e : stB r p h f = false) : apP r p h f = p ∧ apH r p h f = h := by unfold apP apH; rw [e]; exact ⟨rfl, rfl⟩
theorem ap_y {r : Rul} {p : Pos} {h : Int} {f : Fct} (e : stB r p h f = true) : apP r p h f = stP p f ∧ apH r p h f = stH h f := by unfold apP apH; rw [e]; exact ⟨rfl, rfl⟩
theorem stB_0 {r : Rul} {p : Pos} {h : Int} {f : Fct} (e : stOk r f = false) : stB r p h f = false := by unfold stB; rw [e]; rfl
theorem stB_h {r : Rul} {p : Pos} {h : Int} {f : Fct} (e : h ≠ 0) (k : ¬ f.kind = 2) : stB r p h f = false := by unfold stB; rw [if_neg k, decide_eq_false e]; simp
theorem stB_2 {r : Rul} {p : Pos} {h : Int} {f : Fct} (o : stOk r f = true) (k : f.kind = 2) : stB r p h f = decide (f.count ≤ h) := by unfold stB; rw [o, if_pos k]; rfl
theorem stB_3 {r : Rul} {p : Pos} {h : Int} {f : Fct} (o : stOk r f = true) (e : h = 0) (k : f.kind = 1 ∨ f.kind = 3) : stB r p h f = decide (getI p.pits f.place = f.count) := by unfold stB; rw [o, if_neg (by omega), if_pos k, decide_eq_true e]; rfl
theorem stB_6 {r : Rul} {p : Pos} {h : Int} {f : Fct} (o : stOk r f = true) (e : h = 0) (k2 : ¬ f.kind = 2) (k : ¬ (f.kind = 1 ∨ f.kind = 3)) : stB r p h f = true := by unfold stB; rw [o, if_neg k2, if_neg k, decide_eq_true e]; rfl
theorem stP_1 {p : Pos} {h : Int} {f : Fct} (k : f.kind = 1) : stP p f = ⟨setI p.pits f.place 0, p.stores, p.player⟩ ∧ stH h f = f.count := by unfold stP stH; rw [if_pos k, if_pos k]; exact ⟨rfl, rfl⟩
theorem stP_2s {p : Pos} {h : Int} {f : Fct} (k : f.kind = 2) (n : f.place < 0) : stP p f = ⟨p.pits, setI p.stores p.player (getI p.stores p.player + f.count), p.player⟩ ∧ stH h f = h - f.count := by unfold stP stH; rw [if_neg (by omega), if_pos k, if_pos n, if_neg (by omega), if_pos k]; exact ⟨rfl, rfl⟩
theorem stP_2p {p : Pos} {h : Int} {f : Fct} (k : f.kind = 2) (n : ¬ f.place < 0) : stP p f = ⟨setI p.pits f.place (getI p.pits f.place + f.count), p.stores, p.player⟩ ∧ stH h f = h - f.count := by unfold stP stH; rw [if_neg (by omega), if_pos k, if_neg n, if_neg (by omega), if_pos k]; exact ⟨rfl, rfl⟩
theorem stP_3 {p : Pos} {h : Int} {f : Fct} (k : f.kind = 3) : stP p f = ⟨setI p.pits f.place 0, setI p.stores p.player (getI p.stores p.player + f.count), p.player⟩ ∧ stH h f = h := by unfold stP stH; rw [if_neg (by omega), if_neg (by omega), if_pos k, if_neg (by omega), if_neg (by omega)]; exact ⟨rfl, rfl⟩
theorem stP_6 {p : Pos} {h : Int} {f : Fct} (k : f.kind = 6) : stP p f = ⟨p.pits, p.stores, 1 - p.player⟩ ∧ stH h f = h := by unfold stP stH; rw [if_neg (by omega), if_neg (by omega), if_neg (by omega), if_pos k, if_neg (by omega), if_neg (by omega)]; exact ⟨rfl, rfl⟩
theorem stP_o {p : Pos} {h : Int} {f : Fct} (k1 : ¬ f.kind = 1) (k2 : ¬ f.kind = 2) (k3 : ¬ f.kind = 3) (k6 : ¬ f.kind = 6) : stP p f = p ∧ stH h f = h := by unfold stP stH; rw [if_neg k1, if_neg k2, if_neg k3, if_neg k6, if_neg k1, if_neg k2]; exact ⟨rfl, rfl⟩
def touT (a b : List Int) : Nat → List Int
  | 0 => []
  | k + 1 => touT a b k ++ (if nth b k = nth a k then [] else [(k : Int)])
theorem touT_y {a b : List Int} {k : Nat} (h : ¬ nth b k = nth a k) : touT a b (k + 1) = touT a b k ++ [(k : Int)] := by rw [touT, if_neg h]
theorem touT_n {a b : List Int} {k : Nat} (h : nth b k = nth a k) : touT a b (k + 1) = touT a b k := by rw [touT, if_pos h, List.append_nil]
theorem touT_len (a b : List Int) : ∀ k : Nat, (touT a b k).length ≤ k
  | 0 => Nat.le_refl _
  | k + 1 => by have := touT_len a b k; rw [touT, List.length_append]; split <;> simp <;> omega
def touR (r : Rul) (p : Pos) (move : Int) : List Int × Int := if (make r p move).2 = 0 then (touT p.pits (make r p move).1.next.pits p.pits.length, 0) else ([], (make r p move).2)
theorem touR_y {r : Rul} {p : Pos} {move : Int} (h : (make r p move).2 = 0) : touR r p move = (touT p.pits (make r p move).1.next.pits p.pits.length, 0) := if_pos h
theorem touR_n {r : Rul} {p : Pos} {move : Int} (h : ¬ (make r p move).2 = 0) : touR r p move = ([], (make r p move).2) := if_neg h
def movR (r : Rul) (p : Pos) (move : Int) : Int × Int := if (make r p move).2 = 0 then (((sowMove r p move).2.2.length : Int), 0) else (0, (make r p move).2)
theorem movR_y {r : Rul} {p : Pos} {move : Int} (h : (make r p move).2 = 0) : movR r p move = (((sowMove r p move).2.2.length : Int), 0) := if_pos h
theorem movR_n {r : Rul} {p : Pos} {move : Int} (h : ¬ (make r p move).2 = 0) : movR r p move = (0, (make r p move).2) := if_neg h
theorem stOk_f {r : Rul} {f : Fct} (h : canW f = true → 2 * r.pits ≤ f.place ∨ (f.place < 0 ∧ r.stores = false)) : stOk r f = false := by
  cases c1 : canW f with
  | false => exact stOk_n c1
  | true =>
    cases e : stOk r f with
    | false => rfl
    | true =>
      obtain ⟨_, a, b⟩ := stOk_b e
      rcases h c1 with h | ⟨h, h3⟩
      · omega
      · rcases b with b | b
        · omega
        · rw [h3] at b; cases b
theorem stOk_t {r : Rul} {f : Fct} (c : canW f = true) (h1 : f.place < 2 * r.pits) (h2 : 0 ≤ f.place ∨ r.stores = true) : stOk r f = true := by
  unfold stOk
  rw [c, decide_eq_true h1]
  rcases h2 with h | h
  · rw [decide_eq_true h]; rfl
  · rw [h]; simp
theorem stB_no {r : Rul} {p : Pos} {h : Int} {f : Fct} (h2 : 2 ≤ r.pits) (c : canW f = true → hasP r f = true → 0 < h ∧ ¬ f.kind = 2) : stB r p h f = false := by
  cases c1 : canW f with
  | false => exact stB_0 (stOk_n c1)
  | true =>
    cases c2 : hasP r f with
    | false => exact stB_0 (by rw [← hasP_ok c1 h2]; exact c2)
    | true => obtain ⟨a, b⟩ := c c1 c2; exact stB_h (by omega) b
theorem lsP_y {r : Rul} {p : Pos} {h : Int} {f : Fct} (e : stB r p h f = true) : lsP r p h f = stP p f := by unfold lsP; rw [if_pos e]
theorem lsP_n {r : Rul} {p : Pos} {h : Int} {f : Fct} (e : stB r p h f = false) (k : ¬ f.kind = 6) : lsP r p h f = p := by unfold lsP; rw [if_neg (by simp [e]), if_neg (fun x => k x.2)]
theorem lsP_0 {r : Rul} {p : Pos} {h : Int} {f : Fct} (o : stOk r f = false) : lsP r p h f = p := by unfold lsP; rw [if_neg (by simp [stB_0 o]), if_neg (by simp [o])]
theorem lsP_6 {r : Rul} {p : Pos} {h : Int} {f : Fct} (o : stOk r f = true) (k : f.kind = 6) : lsP r p h f = stP p f := by unfold lsP; by_cases e : stB r p h f = true; rw [if_pos e]; rw [if_neg e, if_pos ⟨o, k⟩]
def lsH (r : Rul) (p : Pos) (h : Int) (f : Fct) : Int := if stB r p h f = true then stH h f else 0
theorem lsH_y {r : Rul} {p : Pos} {h : Int} {f : Fct} (e : stB r p h f = true) : lsH r p h f = stH h f := by unfold lsH; rw [if_pos e]
theorem lsH_n {r : Rul} {p : Pos} {h : Int} {f : Fct} (e : stB r p h f = false) : lsH r p h f = 0 := by unfold lsH; rw [if_neg (by simp [e])]
theorem runF_good {r : Rul} : ∀ (l : List Fct) (p : Pos) (h : Int) (x : Pos × Int), GP r p h → runF r p h l = some x → GP r x.1 x.2
  | [], p, h, x, hG, e => by
    rw [runF] at e; injection e with e; rw [← e]; exact hG
  | f :: l, p, h, x, hG, e => by
    rw [runF] at e
    split at e
    · rename_i hb; exact runF_good l _ _ x (hG.step hb) e
    · cases e
theorem apR_len (r : Rul) (p : Pos) (l : List Fct) : (apR r p l).1.pits.length ≤ 16 ∧ (apR r p l).1.stores.length ≤ 16 := by
  unfold apR
  cases ho : okP r p with
  | false => rw [if_pos rfl]; exact ⟨Nat.zero_le _, Nat.zero_le _⟩
  | true =>
    rw [if_neg (by simp)]
    split
    · exact ⟨Nat.zero_le _, Nat.zero_le _⟩
    · obtain ⟨g1, g2, _⟩ := okP_bd ho
      cases e : runF r p 0 l with
      | none => exact ⟨Nat.zero_le _, Nat.zero_le _⟩
      | some x =>
        have hG := runF_good l p 0 x (GP.of ho) e
        have h1 := hG.g.lp
        have h2 := hG.g.ls
        dsimp only
        split
        · dsimp only; omega
        · exact ⟨Nat.zero_le _, Nat.zero_le _⟩
theorem touR_len (r : Rul) (p : Pos) (move : Int) : (touR r p move).1.length ≤ p.pits.length := by
  unfold touR; split
  · exact touT_len _ _ _
  · exact Nat.zero_le _
theorem factsR_len (r : Rul) (p : Pos) (move : Int) : (factsR r p move).1.length ≤ 20000 := by
  unfold factsR; split
  · rename_i h; exact facts_len h
  · exact Nat.zero_le _
theorem factsR_0 {r : Rul} {p : Pos} {move : Int} (h : (factsR r p move).2 = 0) : (make r p move).2 = 0 := by
  by_cases e : (make r p move).2 = 0
  · exact e
  · rw [factsR_n e] at h; exact h
theorem sowN_step {l : List Fct} {k : Nat} {y : Fct} (h : l[k]? = some y) : sowN (l.take (k + 1)) = sowN (l.take k) + (if y.kind = 2 then y.count else 0) := by
  rw [List.take_add_one, h, sowN_app]
  show _ + ((if y.kind = 2 then y.count else 0) + 0) = _
  omega
end Go.Proofs.Ytjgohnaobbphpaa.M
namespace Go.Proofs.Ytjgohnaobbphpaa
open Go.RowKit
section
variable {P : Program} {n lo : Nat} {B : List Nat} {Q : Exit → Act → World → Prop} {cs : List Code} {l : Fr} {os os' : List Own} {u : World}
theorem giveL (ks : List Nat) {w w₀ : World} {bs : List Own} {fr : List Own} {m : Nat} (hb : Bw w₀ bs) (x : Up w₀.heap.size (offW w₀ (bs.flatMap (·.fp))) u) (hp : PP os ks os') (hf : NL (os'.take m) fr)
    (hw : St w₀.heap.size (bs.flatMap (·.fp)) u w os) : St w₀.heap.size (bs.flatMap (·.fp)) u w (fr ++ [anyO ((os'.drop m).flatMap (·.fp))]) := by
  have hpm := hp.perm
  have e : os' = fr ++ os'.drop m := by rw [← hf.eq, List.take_append_drop]
  exact hw.conv (fun o ho => by
    rcases List.mem_append.1 ho with ho | ho
    · exact hw.prs o (hpm.mem_iff.2 (by rw [e]; exact List.mem_append_left _ ho))
    · simp at ho; subst ho; trivial) (by
    have := hpm.symm.flatMap_right (fun o : Own => o.fp)
    rw [e, List.flatMap_append] at this
    rw [List.flatMap_append]
    simpa [anyO] using this)
theorem zrbE (ks : List Nat) {fn : Func} {R : Value → List Own → Prop} {w₀ : World} {bs : List Own} {fr : List Own} {m : Nat} (hb : Bw w₀ bs) (x : Up w₀.heap.size (offW w₀ (bs.flatMap (·.fp))) u) (h : R (.tuple #[]) fr)
    (hr : fn.results = #[] := by rfl) (hm : ks.length = m := by rfl) (hp : PP os ks os' := by exact pp_) (hf : NL (os'.take m) fr := by exact nl) :
    Js P n w₀.heap.size (bs.flatMap (·.fp)) (bodyPost P fn (RB w₀ bs R)) [] l os u := Js.end_ fun a w ha hw =>
  ⟨ha.dfr, .tuple #[], by unfold results; rw [hr]; simp, _, fr, _, rfl, h, (giveL ks hb x hp hf hw).giveBack hb x⟩
end
theorem own_cut {w : World} {e : TypeId} {sz n c k : Nat} {A : Option Addr} {vs : List Value} (h : w.ownsRow 0 e sz (.slice A n c) n vs) (hk : k ≤ n) :
    w.ownsRow 0 e sz (.slice (cutA sz A 0 c) (k - 0) (c - 0)) (k - 0) (vs.take (k * sz)) ∧ (Value.slice (cutA sz A 0 c) (k - 0) (c - 0)).ownBlock.toList = (Value.slice A n c).ownBlock.toList := by
  obtain ⟨hl, h2⟩ := h
  have hm : k * sz ≤ n * sz := Nat.mul_le_mul_right sz hk
  have hl' : (vs.take (k * sz)).length = (k - 0) * sz := by rw [List.length_take, hl, Nat.sub_zero]; omega
  rcases h2 with ⟨h3, h4⟩ | ⟨g, cap, cur, h3, hg, h5, h6, h7, h8, h9⟩
  · cases h3
    have : k = 0 := by omega
    subst this
    exact ⟨⟨hl', .inl ⟨rfl, rfl⟩⟩, rfl⟩
  · cases h3
    have e1 : cutA sz (some ⟨g, 0, none⟩) 0 c = some ⟨g, 0, none⟩ := by unfold cutA; split <;> simp [addr_add]
    rw [e1]
    refine ⟨⟨hl', .inr ⟨g, c, cur, rfl, hg, h5, by omega, h7, h8, ?_⟩⟩, rfl⟩
    rw [← h9, List.take_take, Nat.sub_zero]
    congr 1; omega
theorem fltV_take {α : Type} {C : α → List Value} {m : Nat} (h : ∀ x, (C x).length = m) : ∀ (xs : List α) (k : Nat), (fltV C xs).take (k * m) = fltV C (xs.take k)
  | [], k => by simp [fltV]
  | x :: xs, 0 => by simp [fltV]
  | x :: xs, k + 1 => by
    show (C x ++ fltV C xs).take ((k + 1) * m) = C x ++ fltV C (xs.take k)
    rw [← fltV_take h xs k, List.take_append, h x, List.take_of_length_le (by rw [h x, Nat.succ_mul]; omega), Nat.succ_mul, Nat.add_sub_cancel]
theorem St.cutF {α : Type} (C : α → List Value) {lo : Nat} {B : List Nat} {os : List Own} {u w : World} {i n c k sz : Nat} {e : TypeId} {A : Option Addr} {xs : List α} {g : List Nat} (hC : ∀ a, (C a).length = sz)
    (hi : os[i]? = some (rowO e sz (.slice A n c) n (fltV C xs) g)) (hk : k ≤ n) (hw : St lo B u w os) :
    St lo B u w (rowO e sz (.slice (cutA sz A 0 c) (k - 0) (c - 0)) (k - 0) (fltV C (xs.take k)) g :: os.eraseIdx i) := by
  have h1 := hw.front hi
  have h0 : w.ownsRow 0 e sz (.slice A n c) n (fltV C xs) := h1.prs (rowO e sz (.slice A n c) n (fltV C xs) g) (by simp)
  obtain ⟨k1, k2⟩ := own_cut h0 hk
  rw [fltV_take hC] at k1
  refine h1.conv (fun o ho => ?_) ?_
  · simp only [List.mem_cons] at ho
    rcases ho with rfl | ho
    · exact k1
    · exact h1.prs o (by simp [ho])
  · simp only [List.flatMap_cons, rowO, k2]
    exact List.Perm.refl _
end Go.Proofs.Ytjgohnaobbphpaa

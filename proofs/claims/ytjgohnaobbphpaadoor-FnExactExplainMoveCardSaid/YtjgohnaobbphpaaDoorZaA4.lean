/- Plain mathematics: all facts of a move can be written. -/
import Derived.Test.YtjgohnaobbphpaaDoorZaA3
import Derived.Test.YtjgohnaobbphpaaDoorZaA2
import Derived.Laws.IdiomStrings
import Derived.Laws.IdiomCopy
set_option linter.unusedSimpArgs false
set_option linter.unusedVariables false
namespace Go.Proofs.YtjgohnaobbphpaaDoor.M
theorem sow_last (r : Rul) (pl frm : Int) (hb : r.pits ≤ 8) (hc : 2 ≤ r.pits) (hp : pl = 0 ∨ pl = 1) (f0 : 0 ≤ frm) : ∀ (n : Nat) (place : Int) (ps ss path : List Int), Good r ps ss ((n + 1 : Nat) : Int) → -1 ≤ place → place < 2 * r.pits →
    0 ≤ (sow r pl frm (n + 1) place ps ss path).1 → 1 ≤ getI (sow r pl frm (n + 1) place ps ss path).2.1 (sow r pl frm (n + 1) place ps ss path).1
  | 0, place, ps, ss, path, hG, p0, p1 => by
    have hbd := nxt_bd r (frm := frm) hb hc hp p0 f0
    have hpq := hG.pit (nxt r pl frm place)
    have hl := hG.lp
    rw [sow]
    split
    · rename_i hx; rw [sow]; intro h; have h : 0 ≤ nxt r pl frm place := h; omega
    · rename_i hx
      rw [sow]
      intro h
      show 1 ≤ getI (setI ps (nxt r pl frm place) (getI ps (nxt r pl frm place) + 1)) (nxt r pl frm place)
      rw [getI_setI_same (by omega) (by omega)]; omega
  | n + 1, place, ps, ss, path, hG, p0, p1 => by
    have hbd := nxt_bd r (frm := frm) hb hc hp p0 f0
    rw [sow]
    split
    · rename_i hx
      have hG2 := hG.putStore (k := pl) (by omega) (by omega) (by omega)
      rw [show ((n + 1 + 1 : Nat) : Int) - 1 = ((n + 1 : Nat) : Int) by omega] at hG2
      exact sow_last r pl frm hb hc hp f0 n _ _ _ _ hG2 hbd.1 hbd.2
    · rename_i hx
      have hG2 := hG.putPit (k := nxt r pl frm place) (by omega) (by omega) hbd.2
      rw [show ((n + 1 + 1 : Nat) : Int) - 1 = ((n + 1 : Nat) : Int) by omega] at hG2
      exact sow_last r pl frm hb hc hp f0 n _ _ _ _ hG2 hbd.1 hbd.2
theorem lap_last {r : Rul} {pl frm : Int} (hb : r.pits ≤ 8) (hc : 2 ≤ r.pits) (hp : pl = 0 ∨ pl = 1) (f0 : 0 ≤ frm) (f1 : frm < 2 * r.pits) {s : Sw} {path : List Int} (hG : Good r s.pits s.stores 0) (h0 : 0 < getI s.pits frm) (hl : 0 ≤ (lap r pl frm s path).1.last) :
    1 ≤ getI (lap r pl frm s path).1.pits (lap r pl frm s path).1.last := by
  have hn : (getI s.pits frm).toNat = ((getI s.pits frm).toNat - 1) + 1 := by omega
  have hG2 := hG.takeUp f0 f1
  unfold lap at hl ⊢
  dsimp only at hl ⊢
  rw [hn] at hl ⊢
  exact sow_last r pl frm hb hc hp f0 _ frm _ _ _ (by rw [show ((((getI s.pits frm).toNat - 1) + 1 : Nat) : Int) = getI s.pits frm by omega]; exact hG2) (by omega) f1 hl
theorem mvT_pit {r : Rul} {pl : Int} (hb : r.pits ≤ 8) (hc : 2 ≤ r.pits) (hp : pl = 0 ∨ pl = 1) : ∀ (n : Nat) (frm : Int) (s : Sw) (path : List Int), 0 ≤ frm → frm < 2 * r.pits → Good r s.pits s.stores 0 → 0 < getI s.pits frm → (mvT r pl n frm s path).1 = true →
    0 ≤ (mvT r pl n frm s path).2.1.last → 1 ≤ getI (mvT r pl n frm s path).2.1.pits (mvT r pl n frm s path).2.1.last
  | 0, frm, s, path, _, _, _, _, h => by simp [mvT] at h
  | n + 1, frm, s, path, f0, f1, hG, h0, h => by
    obtain ⟨ha, hb1, hc1, hd, he, hf⟩ := lap_keeps r path hb hc hp f0 f1 hG
    cases hm : more r (lap r pl frm s path).1 with
    | false => rw [mvT_no hm]; exact lap_last hb hc hp f0 f1 hG h0
    | true =>
      rw [mvT_yes hm] at h ⊢
      have hm2 := more_get hm
      exact mvT_pit hb hc hp n _ _ _ hm2.1 hc1 ha (by omega) h
theorem move_pit {r : Rul} {p : Pos} {move : Int} (hs : (sowMove r p move).1 = 0) (hl : 0 ≤ (sowMove r p move).2.1.last) : 1 ≤ getI (sowMove r p move).2.1.pits (sowMove r p move).2.1.last := by
  have hc : sowCode r p move = 0 := by
    by_cases e : sowCode r p move = 0
    · exact e
    · rw [sowMove_code e] at hs; exact hs
  obtain ⟨hok, m0, m1, hg⟩ := sowCode_ok hc
  obtain ⟨g1, g2, g3, g4, g5, g6, g7⟩ := okP_bd hok
  have hq := mul_bd g7 g1 g2
  have hT := mvT_true hs
  have := mvT_pit g2 g1 g7 100 (p.player * r.pits + move) ⟨p.pits, p.stores, 0, 0⟩ [] (by omega) (by omega) (Good.of_ok hok) hg hT
  rw [sowMove_yes hc hT] at hl ⊢
  exact this hl
theorem tt_pos {r : Rul} {pl : Int} {ps : List Int} : ∀ (n : Nat) (x : Int), x ∈ tt r pl ps n → 1 ≤ getI ps x
  | 0, x, h => by
    unfold tt at h
    split at h
    · rename_i hc
      simp at h; subst h
      simp only [ttOk, Bool.and_eq_true, betw_iff] at hc
      have h2 := hc.2; have h3 : getI ps ((0 : Nat) : Int) = getI ps 0 := rfl; omega
    · simp at h
  | n + 1, x, h => by
    unfold tt at h
    split at h
    · rename_i hc
      rcases List.mem_cons.1 h with rfl | h
      · simp only [ttOk, Bool.and_eq_true, betw_iff] at hc
        have := hc.2; omega
      · exact tt_pos n x h
    · simp at h
theorem taken_pos {r : Rul} {s : Sw} {pl : Int} (hl : 0 ≤ s.last → 1 ≤ getI s.pits s.last) {x : Int} (hx : x ∈ taken r s pl) : 1 ≤ getI s.pits x ∧ 0 ≤ s.last := by
  unfold taken at hx
  split at hx
  · simp at hx
  · rename_i h0
    have h0 : 0 ≤ s.last := by omega
    refine ⟨?_, h0⟩
    split at hx
    · exact tt_pos _ x hx
    · split at hx
      · split at hx
        · rename_i hc
          simp only [List.mem_cons, List.not_mem_nil, or_false] at hx
          rcases hx with rfl | rfl
          · omega
          · omega
        · simp at hx
      · split at hx
        · split at hx
          · simp only [List.mem_singleton] at hx
            subst hx; exact hl h0
          · simp at hx
        · simp at hx
theorem getI_other {l : List Int} {k x : Int} {v : Int} (hk : 0 ≤ k) (hx : 0 ≤ x) (hne : x ≠ k) : getI (setI l k v) x = getI l x := by
  unfold getI; exact nth_setI (by omega) hk
theorem sum_zeros : ∀ (l ps : List Int), l.Nodup → (∀ x ∈ l, 0 ≤ x ∧ x < (ps.length : Int)) → isum (l.map (getI ps)) + isum (zeros l ps) = isum ps
  | [], ps, _, _ => by simp [zeros]
  | k :: l, ps, hn, h => by
    obtain ⟨hk, hn2⟩ := List.nodup_cons.1 hn
    have hkb := h k (by simp)
    have ih := sum_zeros l (setI ps k 0) hn2 (fun x hx => by rw [setI_length]; exact h x (by simp [hx]))
    have e : l.map (getI (setI ps k 0)) = l.map (getI ps) := List.map_congr_left (fun x hx => getI_other hkb.1 (h x (by simp [hx])).1 (fun e => hk (e ▸ hx)))
    rw [e, isum_setI hkb.1 hkb.2] at ih
    rw [List.map_cons, isum_cons]
    have : zeros (k :: l) ps = zeros l (setI ps k 0) := rfl
    rw [this]; omega
theorem nn_zeros : ∀ (l ps : List Int), nn ps → nn (zeros l ps)
  | [], _, h => h
  | k :: l, ps, h => nn_zeros l (setI ps k 0) (nn_setI h k (by omega))
theorem sum_taken {r : Rul} {s : Sw} {pl : Int} (hG : Good r s.pits s.stores 0) (h1 : s.last < 2 * r.pits) : isum ((taken r s pl).map (getI s.pits)) ≤ 96 := by
  have hl := hG.lp
  have := sum_zeros (taken r s pl) s.pits (taken_nodup r s pl) (fun x hx => by have := taken_mem h1 hx; omega)
  have h2 := nn_isum (nn_zeros (taken r s pl) s.pits hG.np)
  have h3 := nn_isum hG.ns
  have h4 := hG.all
  omega
theorem isum_pos : ∀ {l : List Int}, l ≠ [] → (∀ x ∈ l, 1 ≤ x) → 1 ≤ isum l
  | [], h, _ => absurd rfl h
  | [x], _, h => by rw [isum_cons]; have := h x (by simp); show 1 ≤ x + 0; omega
  | x :: y :: l, _, h => by
    have h1 := isum_pos (l := y :: l) (by simp) (fun z hz => h z (by simp [hz]))
    have h2 := h x (by simp)
    rw [isum_cons]; omega
theorem facts_can {r : Rul} {p : Pos} {move : Int} (hm : (make r p move).2 = 0) : ∀ f ∈ factsF r p move, canW f = true := by
  have hs := make_sow0 hm
  obtain ⟨hok, m0, m1, hG, q0, q1, hsum⟩ := sowMove_ok hs
  obtain ⟨g1, g2, g3, g4, g5, g6, g7⟩ := okP_bd hok
  have hl := fun h => move_pit (r := r) (p := p) (move := move) hs h
  have htk : ∀ x ∈ taken r (sowMove r p move).2.1 p.player, 1 ≤ getI (sowMove r p move).2.1.pits x ∧ getI (sowMove r p move).2.1.pits x ≤ 96 ∧ 0 ≤ x ∧ x ≤ 15 ∧ 0 ≤ (sowMove r p move).2.1.last := fun x hx => by
    have a := taken_pos hl hx; have b := hG.pit x; have c := taken_mem q1 hx
    omega
  intro f hf
  unfold factsF at hf
  rcases List.mem_append.1 hf with hf | hf
  · rcases List.mem_append.1 hf with hf | hf
    · rcases List.mem_append.1 hf with hf | hf
      · exact (laps_fw hs f hf).can
      · unfold capF at hf
        obtain ⟨k, hk, rfl⟩ := List.mem_map.1 hf
        have hk' : k ∈ taken r (sowMove r p move).2.1 p.player := by
          unfold captured at hk; split at hk
          · simp at hk
          · exact hk
        obtain ⟨t1, t2, t3, t4, _⟩ := htk k hk'
        unfold canW
        dsimp only
        rw [if_neg (by decide), if_pos (by decide), betw_iff.2 ⟨t1, t2⟩, betw_iff.2 ⟨t3, t4⟩]; rfl
    · unfold spaF at hf
      split at hf
      · rename_i hc
        rw [List.mem_singleton.1 hf]
        have h1 := sum_taken (pl := p.player) hG q1
        have h2 : 1 ≤ isum ((taken r (sowMove r p move).2.1 p.player).map (getI (sowMove r p move).2.1.pits)) := isum_pos (by simpa using hc.2) (fun y hy => by
          obtain ⟨x, hx, rfl⟩ := List.mem_map.1 hy
          exact (htk x hx).1)
        obtain ⟨x, hx⟩ := List.exists_mem_of_ne_nil _ hc.2
        have h3 := (htk x hx).2.2.2.2
        unfold canW
        dsimp only
        rw [if_neg (by decide), if_pos (by decide), betw_iff.2 ⟨h2, h1⟩, betw_iff.2 ⟨h3, by omega⟩]; rfl
      · simp at hf
  · rw [List.mem_singleton.1 hf]
    unfold canW endF
    dsimp only
    rw [if_pos (by split <;> simp)]; rfl
theorem facts_len {r : Rul} {p : Pos} {move : Int} (hm : (make r p move).2 = 0) : (factsF r p move).length ≤ 20000 := by
  have hs := make_sow0 hm
  obtain ⟨hok, m0, m1, hG, q0, q1, hsum⟩ := sowMove_ok hs
  obtain ⟨g1, g2, g3, g4, g5, g6, g7⟩ := okP_bd hok
  have h1 := lapsF_len (r := r) (p := p) (move := move)
  have h2 := path_len hs
  have h3 := captured_len (s := (sowMove r p move).2.1) (player := p.player) q1 g2
  have h4 : (spaF r p (sowMove r p move).2.1).length ≤ 1 := by unfold spaF; split <;> simp
  unfold factsF capF
  simp only [List.length_append, List.length_map, List.length_cons, List.length_nil]; omega
section
variable {out d c : List Fct} {t : Fct} {x n : Int} {b i : Nat}
theorem sowL_new (h : out = d ++ c) : sowL (out ++ [t]) (((out ++ [t]).length : Int)).toNat x = ((d ++ c) ++ [t]) ++ addF [] x := by
  subst h
  have := sowL_at ((d ++ c) ++ [t]) [] x
  rw [List.append_nil] at this
  rw [Int.toNat_natCast]; exact this
theorem sowL_old (h : out = d ++ c) (hb : b = d.length) : sowL out ((b : Int)).toNat x = d ++ addF c x := by
  subst h; subst hb; rw [Int.toNat_natCast]; exact sowL_at d c x
theorem sowL_ge {l : List Fct} (h : b ≤ l.length) : b ≤ (sowL l ((b : Int)).toNat x).length := by
  unfold sowL; rw [Int.toNat_natCast, List.length_append, List.length_take]; omega
theorem newLen (h : out = d ++ c) : (out ++ [t]).length = ((d ++ c) ++ [t]).length := by rw [h]
end
theorem tel_miss2 {base cur F : List Fct} {g : List (Int × Int)} {x : Int} {n : Nat} (hn : F.length = n) (hF : F = base ++ cur) (h : MapF_ g (base.length : Int) cur) (hx : mhas g x = false) :
    fct (F ++ [(⟨2, x, 0⟩ : Fct)]) n = ⟨2, x, 0⟩ ∧ (F ++ [(⟨2, x, 0⟩ : Fct)]).set n ⟨2, x, 0 + 1⟩ = base ++ addF cur x ∧ MapF_ (mput g x (n : Int)) (base.length : Int) (addF cur x) := by
  subst hn; exact tel_miss hF h hx
theorem facts_end {r : Rul} {p : Pos} {move : Int} {sw : Sw} {o : List Fct} {b : Bool} (h : (make r p move).2 = 0) (hs : (sowMove r p move).2.1 = sw) (ho : o = (lapsF r p move ++ capF r p sw) ++ spaF r p sw) (hb : (make r p move).1.again = b) : factsF r p move = o ++ [endF b] := by
  subst hs; subst hb; rw [ho]; rfl
theorem FacI.len {r : Rul} {p : Pos} {frm0 frm : Int} {sw : Sw} {path : List Int} {out : List Fct} (h : FacI r p frm0 frm sw path out) : out.length ≤ 2 * path.length := by
  have : ∀ (q : List Int) (S : Lps), ((lsteps S q).done ++ (lsteps S q).cur).length ≤ (S.done ++ S.cur).length + 2 * q.length := by
    intro q
    induction q with
    | nil => intro S; exact Nat.le_refl _
    | cons x q ih =>
      intro S
      have h1 := ih (lstep S x)
      have h2 : ((lstep S x).done ++ (lstep S x).cur).length ≤ (S.done ++ S.cur).length + 2 := by
        unfold lstep
        split
        · have := addF_len [] x
          simp only [List.length_append, List.length_cons, List.length_nil] at this ⊢; omega
        · have := addF_len S.cur x
          simp only [List.length_append] at this ⊢; omega
      show ((lsteps (lstep S x) q).done ++ (lsteps (lstep S x) q).cur).length ≤ _
      rw [List.length_cons]; omega
  obtain ⟨d, c, h1, h2⟩ := h.st
  have h3 := this path (lap0 p frm0)
  rw [h1] at h3
  rw [h2]
  simpa [lap0] using h3
theorem FacI.lap' {r : Rul} {p : Pos} {frm0 frm : Int} {sw : Sw} {path : List Int} {out : List Fct} (h : FacI r p frm0 frm sw path out) (hp : 0 < getI sw.pits frm) :
    FacI r p frm0 (M.lap r p.player frm sw path).1.last (M.lap r p.player frm sw path).1 (M.lap r p.player frm sw path).2 ((out ++ [⟨1, frm, getI sw.pits frm⟩]) ++ addFs [] (((M.lap r p.player frm sw path).2.drop path.length).take ((M.lap r p.player frm sw path).2.length - path.length))) := by
  have e : ((M.lap r p.player frm sw path).2.drop path.length).take ((M.lap r p.player frm sw path).2.length - path.length) = (M.lap r p.player frm sw path).2.drop path.length := List.take_of_length_le (by rw [List.length_drop]; exact Nat.le_refl _)
  rw [e]; exact h.lap hp
theorem cap_nil {r : Rul} {p : Pos} {sw : Sw} {out : List Fct} (h : captured r sw p.player = [] ∧ taken r sw p.player ≠ []) {l : List Fct} {v : Int} (hv : v = isum ((taken r sw p.player).map (getI sw.pits))) (ho : out = l) : out ++ [⟨4, sw.last, v⟩] = l ++ spaF r p sw := by
  rw [spaF_y h.1 h.2, hv, ho]
theorem cap_non {r : Rul} {p : Pos} {sw : Sw} {out : List Fct} (h : ¬ (captured r sw p.player = [] ∧ taken r sw p.player ≠ [])) {l : List Fct} (ho : out = l) : out = l ++ spaF r p sw := by
  rw [spaF_n h, List.append_nil, ho]
theorem lap_ge (r : Rul) (pl frm : Int) (s : Sw) (path : List Int) (hp : 0 < getI s.pits frm) : path.length ≤ (M.lap r pl frm s path).2.length := by
  obtain ⟨q, h1, _⟩ := lap_steps r pl frm s path hp
  rw [h1, List.length_append]; omega
theorem nth_sm {l : List Int} {k : Nat} (h : k < l.length) : l[k]? = some (nth l k) := by simp [nth, List.getD, h]
end Go.Proofs.YtjgohnaobbphpaaDoor.M
namespace Go.Proofs.YtjgohnaobbphpaaDoor
open Go.RowKit
section
variable {P : Program} {n lo : Nat} {B : List Nat} {Q : Exit → Act → World → Prop} {cs : List Code} {l : Fr} {os os' : List Own} {u : World}
theorem giveL (ks : List Nat) {w w₀ : World} {bs : List Own} {fr : List Own} {m : Nat} (hb : Bw w₀ bs) (x : Up w₀.heap.size (offW w₀ (bs.flatMap (·.fp))) u) (hp : PP os ks os') (hf : NL (os'.take m) fr)
    (hw : St w₀.heap.size (bs.flatMap (·.fp)) u w os) : St w₀.heap.size (bs.flatMap (·.fp)) u w (fr ++ [anyO ((os'.drop m).flatMap (·.fp))]) := by
  have hpm := hp.perm
  have e : os' = fr ++ os'.drop m := by rw [← hf.eq, List.take_append_drop]
  exact hw.conv (fun o ho => by
    rcases List.mem_append.1 ho with ho | ho
    · exact hw.prs o (hpm.mem_iff.2 (by rw [e]; exact List.mem_append_left _ ho))
    · simp at ho; subst ho; trivial) (by
    have := hpm.symm.flatMap_right (fun o : Own => o.fp)
    rw [e, List.flatMap_append] at this
    rw [List.flatMap_append]
    simpa [anyO] using this)
theorem zrbE (ks : List Nat) {fn : Func} {R : Value → List Own → Prop} {w₀ : World} {bs : List Own} {fr : List Own} {m : Nat} (hb : Bw w₀ bs) (x : Up w₀.heap.size (offW w₀ (bs.flatMap (·.fp))) u) (h : R (.tuple #[]) fr)
    (hr : fn.results = #[] := by rfl) (hm : ks.length = m := by rfl) (hp : PP os ks os' := by exact pp_) (hf : NL (os'.take m) fr := by exact nl) :
    Js P n w₀.heap.size (bs.flatMap (·.fp)) (bodyPost P fn (RB w₀ bs R)) [] l os u := Js.end_ fun a w ha hw =>
  ⟨ha.dfr, .tuple #[], by unfold results; rw [hr]; simp, _, fr, _, rfl, h, (giveL ks hb x hp hf hw).giveBack hb x⟩
end
section
variable {P : Program} {n lo : Nat} {B : List Nat} {Q : Exit → Act → World → Prop} {cs : List Code} {K : Act → World → Prop} {ops : Array Oper} {rest : List Oper} {l : Fr} {os os' os1 : List Own} {u : World} {ty : TypeId} {pos : String} {af : Array Edge} {gd : Option (Nat × Bool)} {dst : Option Tmp} {v : Value} {d : Nat}
end
end Go.Proofs.YtjgohnaobbphpaaDoor
namespace Go.Proofs.YtjgohnaobbphpaaDoor.M
def fkNames : List (List UInt8) := [[116, 97, 107, 101], [115, 111, 119], [99, 97, 112, 116, 117, 114, 101], [115, 112, 97, 114, 101], [97, 103, 97, 105, 110], [116, 117, 114, 110]]
theorem fkName_len {y : List UInt8} {k : Nat} (h : fkNames[k]? = some y) : y.length ≤ 7 := by
  have := List.mem_of_getElem? h
  simp only [fkNames, List.mem_cons, List.not_mem_nil, or_false] at this
  rcases this with rfl | rfl | rfl | rfl | rfl | rfl <;> decide
theorem factT_word {f : Fct} {y : List UInt8} (h : canW f = true) (hy : fkNames[(f.kind - 1).toNat]? = some y) (hk : f.kind = 5 ∨ f.kind = 6) : factT f = y := by
  rw [factT_y h]; unfold factT0
  rcases hk with e | e
  · rw [if_neg (by omega), if_neg (by omega), if_neg (by omega), if_neg (by omega), if_pos e]
    rw [e] at hy; exact Option.some.inj hy
  · rw [if_neg (by omega), if_neg (by omega), if_neg (by omega), if_neg (by omega), if_neg (by omega)]
    rw [e] at hy; exact Option.some.inj hy
theorem factT_long {f : Fct} {y : List UInt8} (h : canW f = true) (hy : fkNames[(f.kind - 1).toNat]? = some y) (hk : ¬ (f.kind = 5 ∨ f.kind = 6)) {wy pl : List UInt8} (hw : wy = if f.kind = 2 then [105, 110, 116, 111] else [102, 114, 111, 109]) (hp : pl = placeT f.place) :
    factT f = ((((y ++ [32]) ++ dec f.count) ++ [32]) ++ wy ++ [32]) ++ pl := by
  have hb := canW_k h
  rw [factT_y h, hp]; unfold factT0
  have : f.kind = 1 ∨ f.kind = 2 ∨ f.kind = 3 ∨ f.kind = 4 := by omega
  rcases this with e | e | e | e
  · rw [if_pos e]; rw [if_neg (by omega)] at hw; rw [e] at hy; have := Option.some.inj hy; subst this; subst hw; simp
  · rw [if_neg (by omega), if_pos e]; rw [if_pos e] at hw; rw [e] at hy; have := Option.some.inj hy; subst this; subst hw; simp
  · rw [if_neg (by omega), if_neg (by omega), if_pos e]; rw [if_neg (by omega)] at hw; rw [e] at hy; have := Option.some.inj hy; subst this; subst hw; simp
  · rw [if_neg (by omega), if_neg (by omega), if_neg (by omega), if_pos e]; rw [if_neg (by omega)] at hw; rw [e] at hy; have := Option.some.inj hy; subst this; subst hw; simp
def whyR (r : Rul) (p : Pos) (move : Int) : List UInt8 × Int :=
  if (make r p move).2 = 0 then ([], 3) else if (make r p move).2 = 1 then ([], 1) else (whyT r p move (make r p move).2, 0)
theorem whyR_0 {r : Rul} {p : Pos} {move : Int} (h : (make r p move).2 = 0) : whyR r p move = ([], 3) := if_pos h
theorem whyR_1 {r : Rul} {p : Pos} {move : Int} (h : (make r p move).2 = 1) : whyR r p move = ([], 1) := by unfold whyR; rw [if_neg (by omega), if_pos h]
theorem whyR_w {r : Rul} {p : Pos} {move : Int} (h : ¬ (make r p move).2 = 0) (h1 : ¬ (make r p move).2 = 1) {t : List UInt8} (ht : whyT r p move (make r p move).2 = t) : whyR r p move = (t, 0) := by unfold whyR; rw [if_neg h, if_neg h1, ht]
section
variable {r : Rul} {p : Pos} {move code : Int}
theorem whyT_2 (h : code = 2) : whyT r p move code = [110, 111, 32, 115, 117, 99, 104, 32, 109, 111, 118, 101] := if_pos h
theorem whyT_6 (h2 : ¬ code = 2) (h : code = 6) : whyT r p move code = [116, 104, 101, 32, 112, 105, 116, 32, 105, 115, 32, 101, 109, 112, 116, 121] := by unfold whyT; rw [if_neg h2, if_pos h]
theorem whyT_10 (h2 : ¬ code = 2) (h6 : ¬ code = 6) (h : code = 10) : whyT r p move code = [116, 104, 101, 32, 109, 111, 118, 101, 32, 100, 111, 101, 115, 32, 110, 111, 116, 32, 101, 110, 100] := by unfold whyT; rw [if_neg h2, if_neg h6, if_pos h]
theorem whyT_s (h2 : ¬ code = 2) (h6 : ¬ code = 6) (h10 : ¬ code = 10) (h : r.slam = 1 ∧ slams r (sowMove r p move).2.1 p.player = true) : whyT r p move code = [97, 108, 108, 32, 115, 101, 101, 100, 115, 32, 111, 102, 32, 116, 104, 101, 32, 111, 116, 104, 101, 114, 32, 112, 108, 97, 121, 101, 114, 32, 119, 111, 117, 108, 100, 32, 98, 101, 32, 99, 97, 112, 116, 117, 114, 101, 100] := by
  unfold whyT; rw [if_neg h2, if_neg h6, if_neg h10, if_pos h]
theorem whyT_n (h2 : ¬ code = 2) (h6 : ¬ code = 6) (h10 : ¬ code = 10) (h : ¬ (r.slam = 1 ∧ slams r (sowMove r p move).2.1 p.player = true)) : whyT r p move code = [116, 104, 101, 32, 111, 116, 104, 101, 114, 32, 112, 108, 97, 121, 101, 114, 32, 119, 111, 117, 108, 100, 32, 104, 97, 118, 101, 32, 110, 111, 32, 115, 101, 101, 100, 115] := by
  unfold whyT; rw [if_neg h2, if_neg h6, if_neg h10, if_neg h]
theorem make_9 (h0 : ¬ (make r p move).2 = 0) (h1 : ¬ (make r p move).2 = 1) (h2 : ¬ (make r p move).2 = 2) (h6 : ¬ (make r p move).2 = 6) (h10 : ¬ (make r p move).2 = 10) : (sowMove r p move).1 = 0 := by
  rw [make_code] at h0 h1 h2 h6 h10
  by_cases hs : (sowMove r p move).1 = 0
  · exact hs
  · exfalso
    have hd : (done r p move).2 = (sowMove r p move).1 := by unfold done; rw [if_pos hs]
    rw [hd] at h0 h1 h2 h6 h10
    by_cases hc : sowCode r p move = 0
    · cases hm : (mvT r p.player 100 (p.player * r.pits + move) ⟨p.pits, p.stores, 0, 0⟩ []).1 with
      | true => exact hs (by rw [sowMove_yes hc hm])
      | false => exact h10 (by rw [sowMove_end hc hm])
    · rw [sowMove_code hc] at h0 h1 h2 h6 h10
      have : sowCode r p move = 1 ∨ sowCode r p move = 2 ∨ sowCode r p move = 6 ∨ sowCode r p move = 0 := by
        unfold sowCode; split
        · exact .inl rfl
        · split
          · exact .inr (.inl rfl)
          · split
            · exact .inr (.inr (.inl rfl))
            · exact .inr (.inr (.inr rfl))
      rcases this with h | h | h | h
      · exact h1 h
      · exact h2 h
      · exact h6 h
      · exact h0 h
end
theorem texts_step {l : List Fct} {k : Nat} {y : Fct} {out : List (List UInt8)} (h : out = (l.take k).map factT0) (hy : l[k]? = some y) : out ++ [factT0 y] = (l.take (k + 1)).map factT0 := by
  rw [List.take_add_one, hy, h, List.map_append]; rfl
theorem texts_all {l : List Fct} {k : Nat} {out : List (List UInt8)} (h : out = (l.take k).map factT0) (hk : l.length ≤ k) : l.map factT0 = out := by
  rw [h, List.take_of_length_le hk]
theorem canW_b {f : Fct} (h : canW f = true) : 0 ≤ f.count ∧ f.count ≤ 96 ∧ -1 ≤ f.place ∧ f.place ≤ 15 := by
  unfold canW at h
  split at h
  · simp only [Bool.and_eq_true, decide_eq_true_eq] at h; omega
  · split at h
    · simp only [Bool.and_eq_true, Bool.or_eq_true, decide_eq_true_eq, betw_iff] at h; omega
    · cases h
theorem whyT_len (r : Rul) (p : Pos) (move code : Int) : (whyT r p move code).length ≤ 100 := by
  unfold whyT; repeat' split
  all_goals decide
theorem explR_len (r : Rul) (p : Pos) (move : Int) : (explR r p move).1.length ≤ 20000 := by
  by_cases ho : okP r p = false
  · rw [explR_1 ho]; simp
  · by_cases h : (make r p move).2 = 0
    · rw [explR_f h]; have := facts_len h; simpa using this
    · rw [explR_w ho h]; simp
end Go.Proofs.YtjgohnaobbphpaaDoor.M
namespace Go.Proofs.YtjgohnaobbphpaaDoor
open Go.RowKit
theorem p_idxS {P : Program} {n : Nat} {l : Fr} {dst : Option Tmp} {ty : TypeId} {pos : String} {af : Array Edge} {gd : Option (Nat × Bool)} {x y : Operand} {t e : TypeId} {m kk : Nat} {names : List (List UInt8)} {s : List UInt8} {i : Int}
    (hu : P.underlying t = some (.array m e)) (he : tyOf P e = some (false, 1)) (h1 : opd l x = some (.agg (txs_ names).toArray)) (h2 : opd l y = some (.int .i64 i)) (hi : i = (kk : Int)) (hk : kk < m) (hy : names[kk]? = some s) :
    OpP P n l ⟨dst, .index t x y, ty, pos, af, gd⟩ (.string (sB s)) := fun a w ha => by
  subst hi
  obtain ⟨h3, h4⟩ := run_isAgg (P := P) w he
  have h5 : (kk : Int).toNat = kk := rfl
  have h6 : (txs_ names)[kk]? = some (.string (sB s)) := txs_get hy
  have h7 : ((txs_ names).toArray)[kk]? = some (.string (sB s)) := by simpa using h6
  simp [execOp, ha.eval h1, ha.eval h2, Instr.index, asIntOf, run_underlying hu, hk, h4, h5, part, h3, h7, hy, Result.andThen]
instance {n : Int} : LenB (M.capName n) 9 := ⟨M.capName_len n⟩
instance {n : Int} : LenB (M.slamName n) 7 := ⟨M.slamName_len n⟩
instance {r : M.Rul} : LenB (M.rulesT r) 155 := ⟨M.rulesT_len r⟩
instance {a b c : Int} : LenB (M.recLine a b c) 66 := ⟨M.recLine_len a b c⟩
theorem strs_cellsok {w : World} : ∀ l : List (List UInt8), cellsOk w (l.map Ty.str) (txs_ l)
  | [] => trivial
  | x :: l => ⟨rfl, strs_cellsok l⟩
theorem strs_rowok {w : World} {e : TypeId} {n : Nat} {v : Value} {xs : List (List UInt8)} {g : List Nat} (h : (rowO e 1 v n (txs_ xs) g).pr w) : (Ty.strs e xs).ok w v := by
  have hl : n = xs.length := by have := h.1; rw [List.length_map] at this; omega
  subst hl
  exact row_ok h (strs_cellsok xs)
theorem txs_setL {xs : List (List UInt8)} {i : Nat} {v : List UInt8} (h : i < xs.length) : setL (txs_ xs) (0 + i * 1) [.string (sB v)] = txs_ (xs.set i v) := by
  rw [Nat.zero_add, Nat.mul_one]
  simp only [setL, txs_, List.map_set]
  rw [List.set_eq_take_append_cons_drop, if_pos (by simpa using h)]
  simp
theorem txs_lt {xs : List (List UInt8)} {i : Nat} (h : i < xs.length) : 0 + i * 1 + 1 ≤ (txs_ xs).length := by simp only [txs_, List.length_map]; omega
theorem q_toStr1 {P : Program} {n lo : Nat} {B : List Nat} {l : Fr} {os : List Own} {u : World} {dst : Option Tmp} {ty : TypeId} {pos : String} {af : Array Edge} {gd : Option (Nat × Bool)} {x : Operand} {src dt e e' : TypeId} {i m c : Nat} {A : Option Addr} {a : Int} {b : UInt8} {g : List Nat} (hs : P.underlying src = some (.slice e)) (he : P.underlying e = some (.int .u8)) (hd : P.underlying dt = some .string)
    (hx : opd l x = some (.slice A m c)) (hi : os[i]? = some (rowO e' 1 (.slice A m c) m [.int .u8 a] g)) (hb : (b.toNat : Int) = a) : OpQ P n lo B l os u ⟨dst, .convert src dt x, ty, pos, af, gd⟩ (.string (sB [b])) :=
  q_toStr (xs := [b]) hs he hd hx (by rw [hi, ← hb]; rfl)
def ownsRowS (w : World) (e : TypeId) (v : Value) (n : Nat) (xs : List Value) : Prop :=
  xs.length = n ∧ ∃ g cap cur fz, v = .slice (some ⟨g, 0, none⟩) n cap ∧ w.heap[g]? = some (.cells cur e fz) ∧ (fz.2 = 0 ∨ cap ≤ fz.1) ∧ n ≤ cap ∧ cap ≤ maxLen ∧ cur.size = cap ∧ cur.toList.take n = xs
theorem ownsRowS.cell {w : World} {e : TypeId} {g n cap : Nat} {xs : List Value} (h : ownsRowS w e (.slice (some ⟨g, 0, none⟩) n cap) n xs) (j : Nat) (u : Value) (hu : xs[j]? = some u) : w.cell? ⟨g, j, none⟩ = some u := by
  obtain ⟨_, g', cap', cur, fz, hv, hg, _, _, _, _, ht⟩ := h
  injection hv with hv _ _
  injection hv with hv
  injection hv with hv _ _
  subst hv
  rw [← ht, List.getElem?_take] at hu
  split at hu
  · simp [World.cell?, hg]; simpa using hu
  · cases hu
section
variable {P : Program}
variable {n lo : Nat} {B : List Nat} {l : Fr} {os : List Own} {u : World} {dst : Option Tmp} {ty : TypeId} {pos : String} {af : Array Edge} {gd : Option (Nat × Bool)}
end
end Go.Proofs.YtjgohnaobbphpaaDoor

/- Writing into a row of the call's own that starts past its block's first cell. -/
import Derived.Test.YtmgnckfhghibeaaGreatZyA2
import Derived.Test.YtmgnckfhghibeaaGreatZyA3
set_option linter.unusedSimpArgs false
set_option linter.unusedVariables false
namespace Go.Proofs.YtmgnckfhghibeaaGreat
open Go.RowKit
theorem setL_drop {xs : List Value} {o j : Nat} {v : Value} (h : o ≤ xs.length) : (setL xs (o + j) [v]).drop o = setL (xs.drop o) j [v] := by
  simp only [setL, List.length_singleton, List.append_assoc]
  rw [List.drop_append_of_le_length (by simp; omega), List.drop_take, List.drop_drop]
  rw [show o + j - o = j from by omega, show o + (j + 1) = o + j + 1 from rfl]
section
variable {P : Program} {n lo : Nat} {B : List Nat} {l : Fr} {os : List Own} {u : World} {dst : Option Tmp} {ty : TypeId} {pos : String} {af : Array Edge} {gd : Option (Nat × Bool)}
theorem rx_some {i m c : Nat} {e : TypeId} {A : Option Addr} {vs : List Value} (hi : os[i]? = some (rxO e (.slice A m c) m vs)) (hm : 0 < m) : ∀ w, St lo B u w os → ∃ b o, A = some ⟨b, o, none⟩ := fun w hw => by
  have h : RxRow w e (.slice A m c) m vs := hw.prs _ (List.mem_of_getElem? hi)
  rcases h.2 with ⟨h2, h3⟩ | ⟨g, o, cap, cur, h2, _⟩
  · omega
  · cases h2; exact ⟨g, o, rfl⟩
theorem Mem.rx {i b o c m j : Nat} {e : TypeId} {vs : List Value} {x : Value} (hi : os[i]? = some (rxO e (.slice (some ⟨b, o, none⟩) m c) m vs)) (hx : vs[0 + j * 1]? = some x) : Mem lo B u os fun w => Cell w b (o + j * 1) x := fun w hw => by
  have h : RxRow w e (.slice (some ⟨b, o, none⟩) m c) m vs := hw.prs _ (List.mem_of_getElem? hi)
  rcases h.2 with ⟨h2, h3⟩ | ⟨g, o', cap, cur, h2, hg, h4, h5, h7⟩
  · cases h2
  · cases h2
    refine ⟨cur, e, (0, 0), hg, ?_⟩
    rw [← h7, List.getElem?_take] at hx
    split at hx
    · rw [List.getElem?_drop] at hx
      simpa using hx
    · simp at hx
theorem e_storeRx {x y : Operand} {t e : TypeId} {gg : Bool} {i b o c m j : Nat} {xs xs' : List Value} {v : Value} (ht : tyOf P t = some (gg, 1)) (hx : opd l x = some (.pointer (some ⟨b, o + j * 1, none⟩))) (hi : os[i]? = some (rxO e (.slice (some ⟨b, o, none⟩) m c) m xs)) (hy : opd l y = some v)
    (hv : cellsL v = [v]) (h1 : v.oneCell' = true) (hl : (0 + j * 1) + 1 ≤ xs.length) (hc : setL xs (0 + j * 1) [v] = xs') :
    OpE P n lo B l os u ⟨dst, .store t x y, ty, pos, af, gd⟩ false (fun _ os' u' => os' = os.set i (rxO e (.slice (some ⟨b, o, none⟩) m c) m xs') ∧ u = u') := fun a w ha hw K Q hk => by
  subst hc
  simp only [Nat.zero_add, Nat.mul_one] at hx hl ⊢
  have h0 : RxRow w e (.slice (some ⟨b, o, none⟩) m c) m xs := hw.prs _ (List.mem_of_getElem? hi)
  obtain ⟨hown1, hown2⟩ := h0
  rcases hown2 with ⟨h2, _⟩ | ⟨g', o', cap, cur, h2, hg, h4, h5, h7⟩
  · cases h2
  cases h2
  have hle : xs.length ≤ (cur.toList.drop o).length := by rw [← h7, List.length_take]; omega
  have hle2 : o + xs.length ≤ cur.toList.length := by rw [List.length_drop] at hle; omega
  obtain ⟨w', r1, r2, r3, r4, r5, r6, r7⟩ := run_storeCells_box P b e [v] 0 (o + j) cur.toList w (by simpa using hg) (by simp at hle2 ⊢; omega) (by simpa using h1)
  have hsz := (run_isAgg (P := P) w ht).2
  have hr : (execOp a.eval ⟨dst, .store t x y, ty, pos, af, gd⟩).run P w = .ok .skip w' := by
    simp [execOp, ha.eval hx, ha.eval hy, Instr.storeAt, Instr.sureAddr, storeVar, hsz, cellsL_eq, hv, r1]
  unfold Oper.wp
  rw [hr]
  refine hk _ _ u _ ⟨rfl, rfl⟩ (Up.refl lo u) (hw.upd hi r5 r6 r7 (by omega) (fun k _ hk => r3 k (fun e => hk (by simp [rxO, Value.ownBlock, e]))) (fun k hk => .inl hk) ?_ ?_ (fun k hk _ => hk)) (fun h => by cases h)
  · have h9 := nodup_mem hw.dis (List.mem_of_getElem? hi)
    exact h9
  · refine ⟨by simp only [setL, List.length_append, List.length_take, List.length_drop, List.length_singleton]; omega, .inr ⟨b, o, c, (setL cur.toList (o + j) [v]).toArray, rfl, by simpa using r2, h4, h5, ?_⟩⟩
    rw [List.toList_toArray, setL_drop (by omega)]
    simpa only [Nat.zero_add, Nat.mul_one] using setL_prefix (vs := [v]) h7 hown1.symm hl hle
end
theorem St.releaseB {lo : Nat} {B : List Nat} {u w : World} {os : List Own} (h : St lo B u w os) {i : Nat} {o : Own} (hi : os[i]? = some o) (hB : ∀ k ∈ B, k ∈ (os.eraseIdx i).flatMap (·.fp)) :
    ∃ u', Up lo u u' ∧ St lo B u' w (os.eraseIdx i) ∧ (∀ k ∈ o.fp, u'.heap[k]? = w.heap[k]?) := by
  have hlt : i < os.length := (List.getElem?_eq_some_iff.1 hi).1
  have hpart : ∃ pre post, os = pre ++ o :: post ∧ os.eraseIdx i = pre ++ post := by
    refine ⟨os.take i, os.drop (i + 1), ?_, List.eraseIdx_eq_take_drop_succ ..⟩
    have := (List.getElem?_eq_some_iff.1 hi).2
    rw [← this, ← List.drop_eq_getElem_cons hlt, List.take_append_drop]
  obtain ⟨pre, post, e1, e2⟩ := hpart
  rw [e2] at hB
  have hd := h.dis
  rw [e1] at hd
  simp only [List.flatMap_append, List.flatMap_cons] at hd
  rw [List.nodup_append] at hd
  obtain ⟨d1, d2, d3⟩ := hd
  rw [List.nodup_append] at d2
  obtain ⟨d4, d5, d6⟩ := d2
  have hs : (offW w ((pre ++ post).flatMap (·.fp))).heap.size = w.heap.size := by simp [offW]
  have hsz := h.size
  have hlo := h.lo_
  have mem : ∀ x, x ∈ pre ++ post → x ∈ os := fun x hx => by rw [e1]; simp only [List.mem_append, List.mem_cons] at hx ⊢; rcases hx with hx | hx <;> simp [hx]
  have mem' : ∀ x, x ∈ os → x = o ∨ x ∈ pre ++ post := fun x hx => by
    rw [e1] at hx
    simp only [List.mem_append, List.mem_cons] at hx ⊢
    rcases hx with hx | hx | hx
    · exact .inr (.inl hx)
    · exact .inl hx
    · exact .inr (.inr hx)
  have apart : ∀ k ∈ o.fp, k ∉ (pre ++ post).flatMap (·.fp) := fun k hk hm => by
    rw [List.flatMap_append, List.mem_append] at hm
    rcases hm with hm | hm
    · exact d3 k hm k (List.mem_append_left _ hk) rfl
    · exact d6 k hk k hm rfl
  rw [e2]
  refine ⟨offW w ((pre ++ post).flatMap (·.fp)), ⟨⟨by omega, fun k c t f hk => ?_⟩, fun k hk => ?_, h.os_, h.tape, h.output⟩, ⟨rfl, rfl, rfl, by omega, by omega, fun k hk hn => ?_, fun x hx k hk => ⟨(h.hid x (mem x hx) k hk).1, (h.hid x (mem x hx) k hk).2.1, fun hlt' => ?_⟩, fun x hx => h.prs x (mem x hx), ?_, hB⟩, fun k hk => ?_⟩
  · rw [offW_get, if_neg]
    · exact h.vis.vis k c t f hk
    · intro hm
      obtain ⟨x, hx, hm⟩ := List.mem_flatMap.1 hm
      have := (h.hid x (mem x hx) k hm).2.2 (Array.getElem?_eq_some_iff.1 hk).1
      rw [this] at hk
      simp [hidO] at hk
  · by_cases hm : k ∈ (pre ++ post).flatMap (·.fp)
    · rw [offW_get, if_pos hm, if_pos (by omega)]
      obtain ⟨x, hx, hm⟩ := List.mem_flatMap.1 hm
      exact ((h.hid x (mem x hx) k hm).2.2 (by omega)).symm
    · have nh : ∀ x ∈ os, k ∉ x.fp := fun x hx hk' => by
        rcases mem' x hx with rfl | hx'
        · rcases (h.hid x hx k hk').2.1 with h9 | h9
          · omega
          · exact hm (hB k h9)
        · exact hm (List.mem_flatMap.2 ⟨x, hx', hk'⟩)
      rw [offW_get, if_neg hm]
      exact h.pub k (by omega) nh
  · rw [offW_get, if_neg]
    intro hm
    obtain ⟨x, hx, hm⟩ := List.mem_flatMap.1 hm
    exact hn x hx hm
  · rw [offW_get, if_pos (List.mem_flatMap.2 ⟨x, hx, hk⟩), if_pos (by have := (h.hid x (mem x hx) k hk).1; omega)]
  · rw [List.flatMap_append, List.nodup_append]
    exact ⟨d1, d5, fun a ha b hb e => d3 a ha b (List.mem_append_right _ hb) e⟩
  · rw [offW_get, if_neg (apart k hk)]
theorem Js.pubBox {P : Program} {n lo : Nat} {B : List Nat} {Q : Exit → Act → World → Prop} {cs : List Code} {l : Fr} {os : List Own} {u : World} {i j b bs : Nat} {c c2 : List Value} {T T2 : TypeId} (hi : os[i]? = some (boxO b c T)) (hj : (os.eraseIdx i)[j]? = some (boxO bs c2 T2))
    (k : ∀ u', Up lo u u' → RowAt u' b 0 c → Js P n lo B Q cs l (os.eraseIdx i) u') (hB : B = [bs] := by rfl) : Js P n lo B Q cs l os u := fun a w ha hw => by
  obtain ⟨u', h1, h2, h3⟩ := hw.releaseB hi (fun k hk => by
    rw [hB, List.mem_singleton] at hk
    subst hk
    exact List.mem_flatMap.2 ⟨_, List.mem_of_getElem? hj, by simp [boxO]⟩)
  have hp : w.heap[b]? = some (.cells c.toArray T (0, 0)) := hw.prs _ (List.mem_of_getElem? hi)
  refine k u' h1 (fun m x hm => ⟨c.toArray, T, (0, 0), by rw [h3 b (by simp [boxO])]; exact hp, ?_⟩) a w ha h2
  simpa using hm
inductive RowX : List Own → TypeId → Value → List Int → Prop
  | a {e : TypeId} {v : Value} {m : Nat} {xs : List Int} {r : List Own} : RowX (rxO e v m (ints_ xs) :: r) e v xs
  | s {e : TypeId} {v : Value} {xs : List Int} {q : Own} {r : List Own} (h : RowX r e v xs) : RowX (q :: r) e v xs
theorem RowX.get {os : List Own} {e : TypeId} {v : Value} {xs : List Int} (h : RowX os e v xs) {w : World} : (∀ o ∈ os, o.pr w) → (Ty.ints e xs).ok w v := by
  induction h with
  | a => intro hp; exact ints_rxok (hp _ List.mem_cons_self)
  | s _ ih => intro hp; exact ih fun q hq => hp q (by simp [hq])
theorem okx_ {lo : Nat} {B : List Nat} {os : List Own} {u w : World} {T : Ty} {v : Value} (hw : St lo B u w os) (h : St lo B u w os → T.ok w v := by
    intro hw
    repeat' (first
    | exact ok_i | exact ok_b | with_reducible apply ok_c | with_reducible exact ok_n | with_reducible apply ok_agg | exact ok_s | exact Ty.mono _ (by assumption) vis_ | exact nil_ok | (refine RowX.get ?_ (St.prs hw); (repeat (first | with_reducible exact RowX.a | with_reducible apply RowX.s)); done) | (refine Row1.get ?_ (St.prs hw); (repeat (first | with_reducible exact Row1.a | with_reducible exact Row1.b | with_reducible apply Row1.s)); done) | (refine Own1.get ?_ (St.prs hw); (repeat (first | ((with_reducible apply Own1.a); (repeat (first | with_reducible exact Cel.z | with_reducible apply Cel.s)); done) | with_reducible apply Own1.s)); done) | (refine ok_ofro (Own1.get ?_ (St.prs hw)); (repeat (first | ((with_reducible apply Own1.a); (repeat (first | with_reducible exact Cel.z | with_reducible apply Cel.s)); done) | with_reducible apply Own1.s)); done) | apply ok_ro
    | ((with_reducible apply ok_refB (hw := hw)); (repeat (first | with_reducible exact LdB.z | with_reducible apply LdB.s))) | (apply ok_refP; assumption; exact vis_; rfl; exact off_; exact nl) | exact rfl | assumption | fail)) : T.ok w v := h hw
end Go.Proofs.YtmgnckfhghibeaaGreat
namespace Go.Proofs.YtmgnckfhghibeaaGreat.M
theorem legal_get {r : Rul} {p : Pos} (h : okP r p = true) {i : Nat} (hi : i < (legal r p).length) : ∃ x, (results r p)[i]? = some x ∧ x ∈ results r p ∧ nth (legal r p) i = x.move := by
  have e := legal_yes h
  have hl : i < (results r p).length := by rw [e, List.length_map] at hi; exact hi
  refine ⟨(results r p)[i], List.getElem?_eq_getElem hl, List.getElem_mem hl, ?_⟩
  unfold nth
  rw [e]
  simp [hl]
theorem legal_len' {r : Rul} {p : Pos} (h : okP r p = true) : (legal r p).length = (results r p).length := by rw [legal_yes h, List.length_map]
theorem leastA_y {z : Puz} {s : Int} {l : List Res} {i : Nat} {x : Res} (hx : l[i]? = some x) (h : x.move = z.move) : leastA z s (l.drop i) = leastA z s (l.drop (i + 1)) := by
  obtain ⟨hi, rfl⟩ := List.getElem?_eq_some_iff.1 hx
  rw [List.drop_eq_getElem_cons hi, leastA, if_pos h]
theorem leastA_n {z : Puz} {s : Int} {l : List Res} {i : Nat} {x : Res} (hx : l[i]? = some x) (h : ¬ x.move = z.move) : leastA z s (l.drop i) = leastA z (if (ans z x.move).1 < s then (ans z x.move).1 else s) (l.drop (i + 1)) := by
  obtain ⟨hi, rfl⟩ := List.getElem?_eq_some_iff.1 hx
  rw [List.drop_eq_getElem_cons hi, leastA, if_neg h]
theorem leastA_e {z : Puz} {s : Int} {l : List Res} {i : Nat} (h : l.length ≤ i) : leastA z s (l.drop i) = s := by
  rw [List.drop_eq_nil_of_le h]; rfl
def legC (r : Rul) (p : Pos) : Int := if okP r p = true then 0 else 1
theorem legC_y {r : Rul} {p : Pos} (h : okP r p = true) : legC r p = 0 := if_pos h
theorem legC_n {r : Rul} {p : Pos} (h : okP r p = false) : legC r p = 1 := by unfold legC; rw [h]; rfl
theorem place_bd {r : Rul} {p : Pos} {m : Int} (h : okP r p = true) (h0 : 0 ≤ m) (h1 : m ≤ r.pits - 1) : 0 ≤ p.player * r.pits ∧ p.player * r.pits ≤ 8 ∧ 0 ≤ p.player * r.pits + m ∧ p.player * r.pits + m < (p.pits.length : Int) := by
  obtain ⟨g1, g2, g3, g4, g5, g6, g7⟩ := okP_bd h
  rw [g3]
  rcases g7 with e | e <;> rw [e] <;> omega
theorem runs_snoc (r : Rul) (m : Int) : ∀ (a : List Int) (p : Pos), (runs r p a).length = a.length → (make r (lastPos p (runs r p a)) m).2 = 0 → runs r p (a ++ [m]) = runs r p a ++ [(make r (lastPos p (runs r p a)) m).1]
  | [], p, _, h => by
    have h' : (make r p m).2 = 0 := h
    show (if (make r p m).2 = 0 then _ else _) = _
    rw [if_pos h']
    rfl
  | x :: xs, p, hl, h => by
    by_cases hz : (make r p x).2 = 0
    · have e : runs r p (x :: xs) = (make r p x).1 :: runs r (make r p x).1.next xs := by rw [runs, if_pos hz]
      rw [e] at hl h ⊢
      have := runs_snoc r m xs (make r p x).1.next (by simpa using hl) h
      rw [List.cons_append, runs, if_pos hz, this]
      rfl
    · rw [runs, if_neg hz] at hl; simp at hl
structure Played (g : Gam) (move : Int) : Prop where
  ok : okG (play g move).1 = true
  code : (make g.rules g.now move).2 = 0
  now : (play g move).1.now = (make g.rules g.now move).1.next
  back : undo (play g move).1 = (g, 0)
theorem played {g : Gam} {move : Int} (h : okG g = true) (hz : (play g move).2 = 0) : Played g move := by
  obtain ⟨k1, k2, k3, k4, k5, k6, k7, k8, k9⟩ := okG_parts h
  by_cases h1 : 0 ≤ g.resigned
  · rw [play_6 h1] at hz; simp at hz
  by_cases h2 : g.moves.length = 120
  · rw [play_5 h1 h2] at hz; simp at hz
  have h3 : (make g.rules g.now move).2 = 0 := Decidable.byContradiction fun h3 => by rw [play_c h1 h2 h3] at hz; exact h3 hz
  have hp := play_0 h1 h2 h3
  have hs := runs_snoc g.rules move g.moves g.start k8 (by rw [← k9]; exact h3)
  rw [← k9] at hs
  have hr : g.resigned = -1 := by omega
  have hok : okG (play g move).1 = true := by
    rw [hp]
    simp only [okG, Bool.and_eq_true, decide_eq_true_eq, hs]
    refine ⟨⟨⟨⟨k1, ?_⟩, betw_iff.2 ⟨k3, k4⟩⟩, ?_⟩, lastPos_snoc _ _ _⟩
    · simp; omega
    · simp [k8]
  refine ⟨hok, h3, by rw [hp], ?_⟩
  have hl : (play g move).1.moves.length = g.moves.length + 1 := by rw [hp]; simp
  have hrr : (play g move).1.resigned = -1 := by rw [hp]; exact hr
  rw [undo_0 hok (by omega), hl]
  have e : (((g.moves.length + 1 : Nat) : Int) - 1).toNat = g.moves.length := by omega
  rw [e]
  obtain ⟨j1, j2, j3, j4, j5, j6, j7, j8, j9⟩ := okG_parts hok
  have hn : (cutG (play g move).1 g.moves.length).now = g.now := by
    refine cutG_now ?_
    rw [j6, hp]
    show (hist g.start (runs g.rules g.start (g.moves ++ [move])))[g.moves.length]? = _
    rw [hs]
    have e2 : hist g.start (runs g.rules g.start g.moves ++ [(make g.rules g.now move).1]) = hist g.start (runs g.rules g.start g.moves) ++ [(make g.rules g.now move).1.next] := by simp [hist]
    rw [e2, List.getElem?_append_left (by simp [k8]), ← k8, hist_last, ← k9]
  refine Prod.ext (gam_ext ?_ ?_ ?_ hn ?_) rfl
  · rw [hp]; rfl
  · rw [hp]; rfl
  · rw [hp]; simp [cutG]
  · rw [hr]; rfl
theorem samez_refl (z : Puz) : samez z z = true := by simp [samez, sameP_true]
theorem turnZ_sz {z : Puz} : (turnZ z).1.position.pits.length ≤ 4194304 ∧ (turnZ z).1.position.stores.length ≤ 4194304 := by
  by_cases h : okZ z = true
  · rw [turnZ_yes h]
    obtain ⟨hc, hp⟩ := okZ_parts h
    have ho := optsC_ok hc
    have hl := okP_len (okP_turn ho.1)
    exact ⟨by have := hl.1; dsimp only; omega, by have := hl.2; dsimp only; omega⟩
  · rw [turnZ_no (by simpa using h)]; exact ⟨by simp [Puz.zero, Pos.zero], by simp [Puz.zero, Pos.zero]⟩
theorem puz_okP {r : Rul} {p : Pos} {depth : Int} (h : (puz r p depth).2 = 0) : okP r p = true := (optsC_ok (puz_parts h).1).1
end Go.Proofs.YtmgnckfhghibeaaGreat.M

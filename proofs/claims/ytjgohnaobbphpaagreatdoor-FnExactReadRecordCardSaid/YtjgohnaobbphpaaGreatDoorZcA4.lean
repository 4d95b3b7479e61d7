/- Plain mathematics of the reader of rules, as the walks want it. -/
import Derived.Test.YtjgohnaobbphpaaGreatDoorZcA3
import Derived.Test.YtjgohnaobbphpaaGreatDoorZcA2
set_option linter.unusedSimpArgs false
set_option linter.unusedVariables false
namespace Go.Proofs.YtjgohnaobbphpaaGreatDoor.M
theorem named_0 {l : List (List UInt8)} {t : List UInt8} (h : (namedBy l t).2 = 0) : ¬ idx l t < 0 ∧ (namedBy l t).1 = idx l t := by
  unfold namedBy at h ⊢
  by_cases h1 : idx l t < 0
  · rw [if_pos h1] at h; exact absurd (show (3 : Int) = 0 from h) (by decide)
  · rw [if_neg h1]; exact ⟨h1, rfl⟩
theorem named_3 {l : List (List UInt8)} {t : List UInt8} (h : ¬ (namedBy l t).2 = 0) : idx l t < 0 := by
  unfold namedBy at h
  by_cases h1 : idx l t < 0
  · exact h1
  · rw [if_neg h1] at h; exact absurd rfl h
theorem valP_c0 {y t : List UInt8} (hy : y = captT) (h : (namedBy capNames t).2 = 0) : valP y t = ((namedBy capNames t).1, 0) := by
  subst hy; obtain ⟨a, b⟩ := named_0 h; rw [valP_capt, if_neg a, b]
theorem valP_c3 {y t : List UInt8} (hy : y = captT) (h : ¬ (namedBy capNames t).2 = 0) : valP y t = (0, 4) := by
  subst hy; rw [valP_capt, if_pos (named_3 h)]
theorem valP_s0 {y t : List UInt8} (hy : y = slamT) (h : (namedBy slamNames t).2 = 0) : valP y t = ((namedBy slamNames t).1, 0) := by
  subst hy; obtain ⟨a, b⟩ := named_0 h; rw [valP_slam, if_neg a, b]
theorem valP_s3 {y t : List UInt8} (hy : y = slamT) (h : ¬ (namedBy slamNames t).2 = 0) : valP y t = (0, 4) := by
  subst hy; rw [valP_slam, if_pos (named_3 h)]
theorem valP_n3 {y t : List UInt8} (h1 : ¬ y = captT) (h2 : ¬ y = slamT) (h3 : (num t).2 = false) : valP y t = (0, 3) := by
  unfold valP; rw [if_neg h1, if_neg h2, if_pos h3]
theorem valP_n4 {y t : List UInt8} (h1 : ¬ y = captT) (h2 : ¬ y = slamT) (h3 : (num t).2 = true) (h4 : y = pitsT ∧ betw (num t).1 2 8 = false ∨ y = seedsT ∧ betw (num t).1 1 6 = false) : valP y t = (0, 4) := by
  unfold valP; rw [if_neg h1, if_neg h2, if_neg (by rw [h3]; decide), if_pos h4]
theorem valP_n0 {y t : List UInt8} (h1 : ¬ y = captT) (h2 : ¬ y = slamT) (h3 : (num t).2 = true) (h4 : ¬ (y = pitsT ∧ betw (num t).1 2 8 = false ∨ y = seedsT ∧ betw (num t).1 1 6 = false)) : valP y t = ((num t).1, 0) := by
  unfold valP; rw [if_neg h1, if_neg h2, if_neg (by rw [h3]; decide), if_neg h4]
theorem valR_y {r : Rul} {y t : List UInt8} {n : Int} (h : valP y t = (n, 0)) : valR r y t = setNum r y n := by unfold valR; rw [h, if_pos rfl]
theorem valR_n {r : Rul} {y t : List UInt8} {n k : Int} (h : valP y t = (n, k)) (hk : k ≠ 0) : valR r y t = r := by unfold valR; rw [h, if_neg hk]
section
variable {x : Rdr} {a : Int} {w : List UInt8}
theorem rdW_1 (h : (cutS w [61]).2.2 = true ∧ isNum (cutS w [61]).1 = false ∨ (cutS w [61]).2.2 = false ∧ isFlg (cutS w [61]).1 = false) : rdW x a w = ⟨x.rules, x.problems ++ [⟨1, a, w⟩], x.given⟩ := by
  unfold rdW rdU; rw [if_pos h]
theorem rdW_2 (h1 : ¬ ((cutS w [61]).2.2 = true ∧ isNum (cutS w [61]).1 = false)) (h2 : ¬ ((cutS w [61]).2.2 = false ∧ isFlg (cutS w [61]).1 = false)) (hm : mhas x.given (cutS w [61]).1 = true) : rdW x a w = ⟨x.rules, x.problems ++ [⟨2, a, w⟩], x.given⟩ := by
  unfold rdW rdU; rw [if_neg (fun h => h.elim h1 h2), if_pos hm]
theorem rdW_n {k : Int} (he : (cutS w [61]).2.2 = true) (hn : isNum (cutS w [61]).1 = true) (hm : mhas x.given (cutS w [61]).1 = false) (hk : (valP (cutS w [61]).1 (cutS w [61]).2.1).2 = k) (h0 : ¬ k = 0) : rdW x a w = ⟨valR x.rules (cutS w [61]).1 (cutS w [61]).2.1, x.problems ++ [⟨k, a, w⟩], mput x.given (cutS w [61]).1 a⟩ := by
  subst hk; unfold rdW rdU; rw [if_neg (by rw [he, hn]; simp), if_neg (by rw [hm]; decide), if_pos he, if_neg h0]
theorem rdW_z (he : (cutS w [61]).2.2 = true) (hn : isNum (cutS w [61]).1 = true) (hm : mhas x.given (cutS w [61]).1 = false) (h0 : (valP (cutS w [61]).1 (cutS w [61]).2.1).2 = 0) : rdW x a w = ⟨valR x.rules (cutS w [61]).1 (cutS w [61]).2.1, x.problems, mput x.given (cutS w [61]).1 a⟩ := by
  unfold rdW rdU; rw [if_neg (by rw [he, hn]; simp), if_neg (by rw [hm]; decide), if_pos he, if_pos h0]
theorem rdW_f (he : (cutS w [61]).2.2 = false) (hf : isFlg (cutS w [61]).1 = true) (hm : mhas x.given (cutS w [61]).1 = false) : rdW x a w = ⟨setFlg x.rules (cutS w [61]).1, x.problems, mput x.given (cutS w [61]).1 a⟩ := by
  unfold rdW rdU; rw [if_neg (by rw [he, hf]; simp), if_neg (by rw [hm]; decide), if_neg (by rw [he]; decide)]
end
theorem misN_t {g : List (List UInt8 × Int)} {m : Int} {k : Nat} {y : List UInt8} {ps qs : List Prb} (h : qs = ps ++ misN g m k) (hY : pNames[k]? = some y) (hb : mhas g y = true) : qs = ps ++ misN g m (k + 1) := by
  rw [misN, wdn_get hY, if_pos hb, List.append_nil]; exact h
theorem misN_f {g : List (List UInt8 × Int)} {m : Int} {k : Nat} {y : List UInt8} {ps qs : List Prb} (h : qs = ps ++ misN g m k) (hY : pNames[k]? = some y) (hb : mhas g y = false) : qs ++ [⟨5, m, y⟩] = ps ++ misN g m (k + 1) := by
  rw [misN, wdn_get hY, if_neg (by rw [hb]; decide), h, List.append_assoc]
theorem mis_t {g : List (List UInt8 × Int)} {m : Int} {k : Nat} {ps qs : List Prb} (h : qs = ps ++ misN g m k) (hk : k = 2) (h1 : mhas g agaiT = true) (h2 : mhas g storT = false) : ps ++ mis g m = qs ++ [⟨6, mval g agaiT, agaiT⟩] := by
  subst hk; unfold mis misE; rw [if_pos ⟨h1, h2⟩, h, List.append_assoc]
theorem mis_f {g : List (List UInt8 × Int)} {m : Int} {k : Nat} {ps qs : List Prb} (h : qs = ps ++ misN g m k) (hk : k = 2) (h1 : ¬ (mhas g agaiT = true ∧ mhas g storT = false)) : ps ++ mis g m = qs := by
  subst hk; unfold mis misE; rw [if_neg h1, List.append_nil, h]
theorem mis_len (g : List (List UInt8 × Int)) (m : Int) : (mis g m).length ≤ 3 := by
  have := misN_len g m 2
  unfold mis misE
  rw [List.length_append]
  split <;> simp only [List.length_cons, List.length_nil] <;> omega
theorem PtI.word' {s y : List UInt8} {j : Nat} {a : Int} {k : Nat} (h : PtI s j a k) (hy : (split 32 s)[j]? = some y) (hne : y ≠ []) : PtI s (j + 1) (a + ((y.length : Int) + 1)) (k + 1) ∧ (wds s)[k]? = some y ∧ nth (pls s) k = a := by
  rw [← Int.add_assoc]; exact h.word hy hne
theorem PtI.blank' {s y : List UInt8} {j : Nat} {a : Int} {k : Nat} (h : PtI s j a k) (hy : (split 32 s)[j]? = some y) (he : y = []) : PtI s (j + 1) (a + ((y.length : Int) + 1)) k := by
  subst he; rw [← Int.add_assoc]; exact h.blank hy
theorem rel_done {s : List UInt8} {x : Rdr} {j k : Nat} {a : Int} (h : RelC x (chkN s k)) (hP : PtI s j a k) (hj : (split 32 s).length ≤ j) (hk : k ≤ (wds s).length) : RelC x (chkA s) := by
  have := hP.done hj hk; subst this; exact h
theorem chkT_5 {s : List UInt8} (h : 200 < s.length) : chkT s = (Rul.zero, [], 5) := by unfold chkT; rw [if_pos h]
theorem chkT_p {s : List UInt8} {x : Rdr} (h : ¬ 200 < s.length) (hR : RelC x (chkA s)) (hp : 0 < (x.problems ++ mis x.given (s.length : Int)).length) : chkT s = (Rul.zero, x.problems ++ mis x.given (s.length : Int), 0) := by
  rw [hR.missing] at hp ⊢
  unfold chkT; rw [if_neg h, if_neg (by intro e; rw [e] at hp; simp at hp)]
theorem chkT_n {s : List UInt8} {x : Rdr} (h : ¬ 200 < s.length) (hR : RelC x (chkA s)) (hp : ¬ 0 < (x.problems ++ mis x.given (s.length : Int)).length) : chkT s = (x.rules, x.problems ++ mis x.given (s.length : Int), 0) := by
  rw [hR.missing] at hp ⊢
  have e : chkO s = [] := List.length_eq_zero_iff.1 (by omega)
  unfold chkT; rw [if_neg h, if_pos e, e, hR.r]; rfl
theorem chkT_O {s : List UInt8} (h : ¬ 200 < s.length) (hp : 0 < (chkO s).length) : chkT s = (Rul.zero, chkO s, 0) := by
  unfold chkT; rw [if_neg h, if_neg (by intro e; rw [e] at hp; simp at hp)]
theorem chkT_R {s : List UInt8} (h : ¬ 200 < s.length) (hp : ¬ 0 < (chkO s).length) : chkT s = (chkR s, [], 0) := by
  unfold chkT; rw [if_neg h, if_pos (List.length_eq_zero_iff.1 (by omega))]
theorem chkT_len (s : List UInt8) : (chkT s).2.1.length ≤ s.length + 4 := by
  have := chkO_len s
  unfold chkT
  split
  · show ([] : List Prb).length ≤ _; simp
  · split
    · show ([] : List Prb).length ≤ _; simp
    · exact this
theorem RelC.plen {x : Rdr} {s : List UInt8} {k : Nat} (h : RelC x (chkN s k)) : x.problems.length ≤ k := by rw [h.p]; exact (chkN_len s k).2.2
end Go.Proofs.YtjgohnaobbphpaaGreatDoor.M
namespace Go.Proofs.YtjgohnaobbphpaaGreatDoor
open Go.RowKit
section
variable {P : Program} {n lo : Nat} {B : List Nat} {Q : Exit → Act → World → Prop} {cs : List Code} {l : Fr} {os os' : List Own} {u : World}
theorem giveL (ks : List Nat) {w w₀ : World} {bs : List Own} {fr : List Own} {m : Nat} (hb : Bw w₀ bs) (x : Up w₀.heap.size (offW w₀ (bs.flatMap (·.fp))) u) (hp : PP os ks os') (hf : NL (os'.take m) fr)
    (hw : St w₀.heap.size (bs.flatMap (·.fp)) u w os) : St w₀.heap.size (bs.flatMap (·.fp)) u w (fr ++ [anyO ((os'.drop m).flatMap (·.fp))]) := by
  have hpm := hp.perm
  have e : os' = fr ++ os'.drop m := by rw [← hf.eq, List.take_append_drop]
  exact hw.conv (fun o ho => by
    rcases List.mem_append.1 ho with ho | ho
    · exact hw.prs o (hpm.mem_iff.2 (by rw [e]; exact List.mem_append_left _ ho))
    · simp at ho; subst ho; trivial) (by
    have := hpm.symm.flatMap_right (fun o : Own => o.fp)
    rw [e, List.flatMap_append] at this
    rw [List.flatMap_append]
    simpa [anyO] using this)
theorem zrbE (ks : List Nat) {fn : Func} {R : Value → List Own → Prop} {w₀ : World} {bs : List Own} {fr : List Own} {m : Nat} (hb : Bw w₀ bs) (x : Up w₀.heap.size (offW w₀ (bs.flatMap (·.fp))) u) (h : R (.tuple #[]) fr)
    (hr : fn.results = #[] := by rfl) (hm : ks.length = m := by rfl) (hp : PP os ks os' := by exact pp_) (hf : NL (os'.take m) fr := by exact nl) :
    Js P n w₀.heap.size (bs.flatMap (·.fp)) (bodyPost P fn (RB w₀ bs R)) [] l os u := Js.end_ fun a w ha hw =>
  ⟨ha.dfr, .tuple #[], by unfold results; rw [hr]; simp, _, fr, _, rfl, h, (giveL ks hb x hp hf hw).giveBack hb x⟩
end
section
variable {P : Program} {n lo : Nat} {B : List Nat} {Q : Exit → Act → World → Prop} {cs : List Code} {K : Act → World → Prop} {ops : Array Oper} {rest : List Oper} {l : Fr} {os os' os1 : List Own} {u : World} {ty : TypeId} {pos : String} {af : Array Edge} {gd : Option (Nat × Bool)} {dst : Option Tmp} {v : Value} {d : Nat}
end
theorem txs_get' {xs : List (List UInt8)} {k : Nat} {y : List UInt8} (h : xs[k]? = some y) : (txs_ xs)[0 + k * 1]? = some (.string (sB y)) := by rw [Nat.zero_add, Nat.mul_one]; simp [txs_, h]
end Go.Proofs.YtjgohnaobbphpaaGreatDoor
namespace Go.Proofs.YtjgohnaobbphpaaGreatDoor.M
theorem rel_at (s : List UInt8) : ∀ k : Nat, ∃ x, RelC x (chkN s k)
  | 0 => ⟨_, RelC.zero⟩
  | k + 1 => by obtain ⟨x, h⟩ := rel_at s k; exact ⟨_, h.step (nth (pls s) k) (wdn (wds s) k)⟩
theorem betw_nf {n a b : Int} (h : ¬ betw n a b = false) : a ≤ n ∧ n ≤ b := betw_iff.1 (by cases hb : betw n a b; exact absurd hb h; rfl)
theorem valP_rng {y t : List UInt8} {n : Int} (h : valP y t = (n, 0)) : (y = pitsT → 2 ≤ n ∧ n ≤ 8) ∧ (y = seedsT → 1 ≤ n ∧ n ≤ 6) ∧ (y = captT → 0 ≤ n ∧ n ≤ 3) ∧ (y = slamT → 0 ≤ n ∧ n ≤ 2) := by
  refine ⟨fun e => ?_, fun e => ?_, fun e => ?_, fun e => ?_⟩ <;> subst e
  · rw [valP_pits] at h
    split at h
    · injection h with _ h; exact absurd h (by decide)
    · split at h
      · injection h with _ h; exact absurd h (by decide)
      · rename_i hb; injection h with h _; rw [← h]; exact betw_nf hb
  · rw [valP_seeds] at h
    split at h
    · injection h with _ h; exact absurd h (by decide)
    · split at h
      · injection h with _ h; exact absurd h (by decide)
      · rename_i hb; injection h with h _; rw [← h]; exact betw_nf hb
  · rw [valP_capt] at h
    split at h
    · injection h with _ h; exact absurd h (by decide)
    · injection h with h _
      have := idx_bd capNames t
      rw [show (capNames.length : Int) = 4 from rfl] at this
      omega
  · rw [valP_slam] at h
    split at h
    · injection h with _ h; exact absurd h (by decide)
    · injection h with h _
      have := idx_bd slamNames t
      rw [show (slamNames.length : Int) = 3 from rfl] at this
      omega
theorem wrd_rng {w : List UInt8} {i n : Int} (h : wrd w = (i, n, 0)) : (i = 0 → 2 ≤ n ∧ n ≤ 8) ∧ (i = 1 → 1 ≤ n ∧ n ≤ 6) ∧ (i = 7 → 0 ≤ n ∧ n ≤ 3) ∧ (i = 8 → 0 ≤ n ∧ n ≤ 2) := by
  rw [wrd_P] at h
  generalize (cutS w [61]).1 = y at h
  generalize (cutS w [61]).2.1 = t at h
  generalize (cutS w [61]).2.2 = e at h
  cases hn : isNum y with
  | true =>
    obtain ⟨q1, q2, q3, q4⟩ := wrdP_num (t := t) hn
    cases e with
    | false => rw [q3] at h; injection h with _ h; injection h with _ h; exact absurd h (by decide)
    | true =>
      rw [q1] at h
      injection h with h1 h
      injection h with h2 h3
      have hr := valP_rng (y := y) (t := t) (n := n) (by rw [← h2, ← h3])
      rcases isNum_iff hn with rfl | rfl | rfl | rfl
      · have : i = 0 := h1.symm
        exact ⟨fun _ => hr.1 rfl, fun h => by omega, fun h => by omega, fun h => by omega⟩
      · have : i = 1 := h1.symm
        exact ⟨fun h => by omega, fun _ => hr.2.1 rfl, fun h => by omega, fun h => by omega⟩
      · have : i = 7 := h1.symm
        exact ⟨fun h => by omega, fun h => by omega, fun _ => hr.2.2.1 rfl, fun h => by omega⟩
      · have : i = 8 := h1.symm
        exact ⟨fun h => by omega, fun h => by omega, fun h => by omega, fun _ => hr.2.2.2 rfl⟩
  | false =>
    cases hf : isFlg y with
    | false => rw [wrdP_no hn hf] at h; injection h with _ h; injection h with _ h; exact absurd h (by decide)
    | true =>
      obtain ⟨q1, q2, q3, q4⟩ := wrdP_flg (t := t) hf
      cases e with
      | true => rw [q3] at h; injection h with _ h; injection h with _ h; exact absurd h (by decide)
      | false =>
        rw [q1] at h
        injection h with h1 _
        have : 2 ≤ flagIx y ∧ flagIx y ≤ 6 := by rcases isFlg_iff5 hf with rfl | rfl | rfl | rfl | rfl <;> decide
        exact ⟨fun h => by omega, fun h => by omega, fun h => by omega, fun h => by omega⟩
def RngV (v : List Int) (b : List Bool) : Prop := (blt b 0 = true → 2 ≤ nth v 0 ∧ nth v 0 ≤ 8) ∧ (blt b 1 = true → 1 ≤ nth v 1 ∧ nth v 1 ≤ 6) ∧ (0 ≤ nth v 7 ∧ nth v 7 ≤ 3) ∧ (0 ≤ nth v 8 ∧ nth v 8 ≤ 2)
theorem chkN_rng (s : List UInt8) : ∀ k : Nat, (chkN s k).out = [] → RngV (chkN s k).v (chkN s k).seen
  | 0, _ => (⟨fun h => absurd (show false = true from h) (by decide), fun h => absurd (show false = true from h) (by decide), by decide, by decide⟩ : RngV Chk.zero.v Chk.zero.seen)
  | k + 1, h => by
    obtain ⟨hl, hs, _⟩ := chkN_len s k
    have hb := wrd_bd (wdn (wds s) k)
    have ih := chkN_rng s k
    rw [chkN] at h ⊢
    generalize chkN s k = c at h hl hs ih ⊢
    have hr := @wrd_rng (wdn (wds s) k)
    generalize wdn (wds s) k = w at h hb hr ⊢
    unfold chkS at h ⊢
    split
    · rename_i h1; rw [if_pos h1] at h; simp at h
    · rename_i h1
      rw [if_neg h1] at h
      dsimp only at h ⊢
      have h0 : chkK c w = 0 := by
        by_cases h0 : chkK c w = 0
        · exact h0
        · rw [if_neg h0] at h; simp at h
      rw [if_pos h0] at h
      have hk : (wrd w).2.2 = 0 := by
        unfold chkK at h0
        split at h0
        · exact absurd h0 (by decide)
        · exact h0
      obtain ⟨r0, r1, r7, r8⟩ := hr (i := (wrd w).1) (n := (wrd w).2.1) (by rw [← hk])
      obtain ⟨i0, i1, i7, i8⟩ := ih h
      have hi : ∀ j : Nat, j < 9 → nth (setI c.v (wrd w).1 (wrd w).2.1) j = if (wrd w).1 = (j : Int) then (wrd w).2.1 else nth c.v j := fun j hj => by
        by_cases e : (wrd w).1 = (j : Int)
        · rw [if_pos e, e]
          have := nth_setI_eq (l := c.v) (k := (j : Int)) (n := (wrd w).2.1) (by rw [Int.toNat_natCast]; omega)
          rwa [Int.toNat_natCast] at this
        · rw [if_neg e, nth_setI (fun e2 => e e2.symm) hb.1]
      have hbs : ∀ j : Nat, j < 9 → blt (c.seen.set (wrd w).1.toNat true) j = true → (wrd w).1 = (j : Int) ∨ blt c.seen j = true := fun j hj h9 => by
        rw [blt_set (by omega)] at h9
        simp only [Bool.or_eq_true, decide_eq_true_eq] at h9
        rcases h9 with h9 | h9
        · left; omega
        · exact .inr h9
      refine ⟨fun h9 => ?_, fun h9 => ?_, ?_, ?_⟩
      · rw [hi 0 (by decide)]
        by_cases e : (wrd w).1 = ((0 : Nat) : Int)
        · rw [if_pos e]; exact r0 e
        · rw [if_neg e]; exact i0 ((hbs 0 (by decide) h9).resolve_left e)
      · rw [hi 1 (by decide)]
        by_cases e : (wrd w).1 = ((1 : Nat) : Int)
        · rw [if_pos e]; exact r1 e
        · rw [if_neg e]; exact i1 ((hbs 1 (by decide) h9).resolve_left e)
      · rw [hi 7 (by decide)]
        by_cases e : (wrd w).1 = ((7 : Nat) : Int)
        · rw [if_pos e]; exact r7 e
        · rw [if_neg e]; exact i7
      · rw [hi 8 (by decide)]
        by_cases e : (wrd w).1 = ((8 : Nat) : Int)
        · rw [if_pos e]; exact r8 e
        · rw [if_neg e]; exact i8
theorem chk_okR {s : List UInt8} (h : chkO s = []) : okR (chkR s) = true := by
  obtain ⟨x, hx⟩ := rel_at s (wds s).length
  have hr := chkN_rng s (wds s).length
  change RelC x (chkA s) at hx
  change (chkA s).out = [] → RngV (chkA s).v (chkA s).seen at hr
  unfold chkO at h
  obtain ⟨h1, h2⟩ := List.append_eq_nil_iff.1 h
  rw [chkM, chkM, chkM] at h1
  obtain ⟨h1, hb1⟩ := List.append_eq_nil_iff.1 h1
  obtain ⟨h1, hb0⟩ := List.append_eq_nil_iff.1 h1
  have b0 : blt (chkA s).seen 0 = true := by
    by_cases e : blt (chkA s).seen 0 = true
    · exact e
    · rw [if_neg e] at hb0; simp at hb0
  have b1 : blt (chkA s).seen 1 = true := by
    by_cases e : blt (chkA s).seen 1 = true
    · exact e
    · rw [if_neg e] at hb1; simp at hb1
  obtain ⟨r0, r1, r7, r8⟩ := hr h1
  have h6 : ¬ (nth (chkA s).v 6 = 1 ∧ nth (chkA s).v 2 = 0) := fun e => by rw [if_pos e] at h2; simp at h2
  refine okR_mk (r0 b0) (r1 b1) r7 r8 ?_
  by_cases e6 : nth (chkA s).v 6 = 1
  · have e2 : nth (chkA s).v 2 = 1 := by
      cases hb : blt (chkA s).seen 2 with
      | true => exact hx.f2 hb
      | false => exact absurd ⟨e6, hx.z 2 hb⟩ h6
    rw [decide_eq_true e2]; rfl
  · rw [decide_eq_false e6]; simp
theorem plc : ∀ (ws : List (List UInt8)) (a : Nat) (t : List UInt8), t.drop a = joinW 32 ws → a ≤ t.length → ∀ (k : Nat) (w : List UInt8) (p : Int), (ws.filter fun w => decide (w ≠ []))[k]? = some w → (plsW (a : Int) ws)[k]? = some p →
    (t.drop p.toNat).take w.length = w ∧ 0 ≤ p ∧ p + (w.length : Int) ≤ (t.length : Int)
  | [], _, _, _, _, k, w, p, h, _ => by simp at h
  | [u], a, t, ht, ha, k, w, p, h, hp => by
    have ht : t.drop a = u := ht
    have hl : u.length = t.length - a := by rw [← ht, List.length_drop]
    by_cases hu : u = []
    · subst hu; simp at h
    · rw [List.filter_cons_of_pos (by simpa using hu)] at h
      rw [plsW, if_neg hu] at hp
      cases k with
      | zero =>
        simp at h hp
        subst h; subst hp
        exact ⟨by rw [Int.toNat_natCast, ht, List.take_length], by omega, by omega⟩
      | succ k => simp at h
  | u :: v :: ws, a, t, ht, ha, k, w, p, h, hp => by
    have ht : t.drop a = u ++ 32 :: joinW 32 (v :: ws) := ht
    have hl := congrArg List.length ht
    rw [List.length_drop, List.length_append, List.length_cons] at hl
    have hd : t.drop (a + u.length + 1) = joinW 32 (v :: ws) := by
      rw [Nat.add_assoc, ← List.drop_drop, ht, show u.length + 1 = u.length + 1 from rfl, ← List.drop_drop, List.drop_left]; rfl
    by_cases hu : u = []
    · subst hu
      rw [List.filter_cons_of_neg (by simp)] at h
      rw [plsW, if_pos rfl] at hp
      exact plc (v :: ws) (a + 1) t hd (by simp at hl; omega) k w p h hp
    · rw [List.filter_cons_of_pos (by simpa using hu)] at h
      rw [plsW, if_neg hu] at hp
      cases k with
      | zero =>
        simp at h hp
        subst h; subst hp
        exact ⟨by rw [Int.toNat_natCast, ht, List.take_left], by omega, by omega⟩
      | succ k =>
        rw [List.getElem?_cons_succ] at h hp
        exact plc (v :: ws) (a + u.length + 1) t hd (by omega) k w p h (by rw [show ((a + u.length + 1 : Nat) : Int) = (a : Int) + (u.length : Int) + 1 by omega]; exact hp)
theorem place {s w : List UInt8} {k : Nat} (h : (wds s)[k]? = some w) : (s.drop (nth (pls s) k).toNat).take w.length = w ∧ 0 ≤ nth (pls s) k ∧ nth (pls s) k + (w.length : Int) ≤ (s.length : Int) := by
  have hk : k < (pls s).length := by rw [pls_len]; exact (List.getElem?_eq_some_iff.1 h).1
  exact plc (split 32 s) 0 s (by rw [joinW_split]; rfl) (Nat.zero_le _) k w _ h (by rw [nth_eq hk]; exact List.getElem?_eq_getElem hk)
def readR (s : List UInt8) : Rul × Bool := if (chkT s).2.2 = 0 ∧ (chkT s).2.1 = [] ∧ rulesTR (chkT s).1 = s then ((chkT s).1, true) else (Rul.zero, false)
theorem readR_y {s : List UInt8} (h1 : (chkT s).2.2 = 0) (h2 : (chkT s).2.1 = []) (h3 : rulesTR (chkT s).1 = s) : readR s = ((chkT s).1, true) := if_pos ⟨h1, h2, h3⟩
theorem readR_n {s : List UInt8} (h : ¬ ((chkT s).2.2 = 0 ∧ (chkT s).2.1 = [] ∧ rulesTR (chkT s).1 = s)) : readR s = (Rul.zero, false) := if_neg h
theorem readR_5 {s : List UInt8} (h : 200 < s.length) : readR s = (Rul.zero, false) := readR_n (by rw [chkT_5 h]; rintro ⟨h, _⟩; exact absurd (show (5 : Int) = 0 from h) (by decide))
theorem readR_p {s : List UInt8} (h : ¬ 200 < s.length) (h2 : chkO s ≠ []) : readR s = (Rul.zero, false) := readR_n (by rw [chkT_O h (by cases e : chkO s; exact absurd e h2; simp)]; rintro ⟨_, h, _⟩; exact h2 h)
theorem readR_t {s : List UInt8} (h : ¬ 200 < s.length) (h2 : chkO s = []) (h3 : rulesT (chkR s) = s) : readR s = (chkR s, true) := by
  have e := chkT_R h (by rw [h2]; simp)
  have := readR_y (s := s) (by rw [e]) (by rw [e]) (by rw [e]; dsimp only; rw [rulesTR_yes (chk_okR h2)]; exact h3)
  rw [this, e]
theorem readR_f {s : List UInt8} (h : ¬ 200 < s.length) (h2 : chkO s = []) (h3 : ¬ rulesT (chkR s) = s) : readR s = (Rul.zero, false) := by
  have e := chkT_R h (by rw [h2]; simp)
  exact readR_n (by rw [e]; dsimp only; rw [rulesTR_yes (chk_okR h2)]; rintro ⟨_, _, h⟩; exact h3 h)
theorem readR_one {s : List UInt8} (h : (readR s).2 = true) : (chkT s).2.2 = 0 ∧ (chkT s).2.1 = [] ∧ (chkT s).1 = (readR s).1 := by
  unfold readR at h ⊢
  split
  · rename_i h1; exact ⟨h1.1, h1.2.1, rfl⟩
  · rename_i h1; rw [if_neg h1] at h; exact absurd h (by decide)
theorem split_joinW (b : UInt8) : ∀ {ws : List (List UInt8)}, ws ≠ [] → (∀ w ∈ ws, b ∉ w) → split b (joinW b ws) = ws
  | [], h, _ => absurd rfl h
  | [w], _, h => split_last b w (h w (by simp))
  | w :: v :: ws, _, h => by
    show split b (w ++ b :: joinW b (v :: ws)) = _
    rw [split_app b w _ (h w (by simp)), split_joinW b (ws := v :: ws) (by simp) (fun u hu => h u (List.mem_cons_of_mem _ hu))]
theorem split_joinT {l : List Int} (h : l ≠ []) : split 44 (joinT l) = l.map dec := by
  rw [joinT_W]
  refine split_joinW 44 (by simpa using h) fun w hw => ?_
  obtain ⟨n, _, rfl⟩ := List.mem_map.1 hw
  exact dec_no (by simp)
theorem joinT_inj_len {a b : List Int} (ha : a ≠ []) (hb : b ≠ []) (h : joinT a = joinT b) : a.length = b.length := by
  have := congrArg (fun s => (split 44 s).length) h
  simp only [split_joinT ha, split_joinT hb, List.length_map] at this
  exact this
theorem nums_ne {s : List UInt8} (h : (nums s).2 = true) : (nums s).1 ≠ [] := by
  rw [nums_yes (nums_ok h)]
  intro e
  have := congrArg List.length e
  simp only [numsV, List.length_map, List.length_nil] at this
  exact split_ne 44 s (List.eq_nil_of_length_eq_zero this)
def w3 (s : List UInt8) (i : Nat) : List UInt8 := (split 32 s).getD i []
def x2 (s : List UInt8) (i : Nat) : List UInt8 := (split 47 (w3 s 1)).getD i []
def readP0 (s : List UInt8) : Pos × Bool :=
  if (split 32 s).length = 3 ∧ (split 47 (w3 s 1)).length = 2 ∧ (num (w3 s 0)).2 = true ∧ (nums (x2 s 0)).2 = true ∧ (nums (x2 s 1)).2 = true ∧ (nums (w3 s 2)).2 = true ∧ (nums (x2 s 0)).1.length = (nums (x2 s 1)).1.length
  then (⟨(nums (x2 s 0)).1 ++ (nums (x2 s 1)).1, (nums (w3 s 2)).1, (num (w3 s 0)).1⟩, true) else (Pos.zero, false)
def readP (r : Rul) (s : List UInt8) : Pos × Bool := if (readP0 s).2 = true ∧ okP r (readP0 s).1 = true then ((readP0 s).1, true) else (Pos.zero, false)
theorem readP_no {r : Rul} {s : List UInt8} (h : (readP0 s).2 = false) : readP r s = (Pos.zero, false) := by unfold readP; rw [if_neg (by simp [h])]
theorem readP0_no {s : List UInt8} (h : ¬ ((split 32 s).length = 3 ∧ (split 47 (w3 s 1)).length = 2 ∧ (num (w3 s 0)).2 = true ∧ (nums (x2 s 0)).2 = true ∧ (nums (x2 s 1)).2 = true ∧ (nums (w3 s 2)).2 = true ∧ (nums (x2 s 0)).1.length = (nums (x2 s 1)).1.length)) : readP0 s = (Pos.zero, false) := by
  unfold readP0; rw [if_neg h]
theorem split_two {b : UInt8} {s : List UInt8} (h : (cutS s [b]).2.2 = true) (hb : b ∉ (cutS s [b]).2.1) : split b s = [(cutS s [b]).1, (cutS s [b]).2.1] := by
  rcases cutS_one b s with ⟨_, h2, _⟩ | ⟨h2, _⟩
  · rw [h2, split_last b _ hb]
  · rw [h] at h2; simp at h2
def first5 (s : List UInt8) : Prop := (num (w3 s 0)).2 = true ∧ (cutS (w3 s 1) [47]).2.2 = true ∧ (nums (cutS (w3 s 1) [47]).1).2 = true ∧ (nums (cutS (w3 s 1) [47]).2.1).2 = true ∧ (nums (w3 s 2)).2 = true
theorem first_x {s : List UInt8} (h : first5 s) : split 47 (w3 s 1) = [(cutS (w3 s 1) [47]).1, (cutS (w3 s 1) [47]).2.1] := by
  obtain ⟨_, h2, _, h4, _⟩ := h
  refine split_two h2 ?_
  rw [← nums_dec h4]; exact joinT_no (by simp)
theorem first_no {s : List UInt8} (h : ¬ first5 s) : readP0 s = (Pos.zero, false) := readP0_no fun ⟨_, h2, h3, h4, h5, h6, _⟩ => by
  apply h
  rcases cutS_one 47 (w3 s 1) with ⟨c1, c2, _⟩ | ⟨_, c2⟩
  · rw [c2] at h2
    have hl : (split 47 (cutS (w3 s 1) [47]).2.1).length = 1 := by simpa using h2
    have hj := joinW_split 47 (cutS (w3 s 1) [47]).2.1
    obtain ⟨v, hv⟩ := List.length_eq_one_iff.1 hl
    rw [hv] at hj
    have hj : v = (cutS (w3 s 1) [47]).2.1 := hj
    have e0 : x2 s 0 = (cutS (w3 s 1) [47]).1 := by unfold x2; rw [c2]; rfl
    have e1 : x2 s 1 = (cutS (w3 s 1) [47]).2.1 := by unfold x2; rw [c2, hv, hj]; rfl
    rw [e0] at h4; rw [e1] at h5
    exact ⟨h3, c1, h4, h5, h6⟩
  · rw [c2] at h2; simp at h2
def readQ (s : List UInt8) : Pos := ⟨(nums (cutS (w3 s 1) [47]).1).1 ++ (nums (cutS (w3 s 1) [47]).2.1).1, (nums (w3 s 2)).1, (num (w3 s 0)).1⟩
theorem first_yes {s : List UInt8} (h3 : (split 32 s).length = 3) (h : first5 s) : readP0 s = if (nums (cutS (w3 s 1) [47]).1).1.length = (nums (cutS (w3 s 1) [47]).2.1).1.length then (readQ s, true) else (Pos.zero, false) := by
  have hx := first_x h
  have e0 : x2 s 0 = (cutS (w3 s 1) [47]).1 := by unfold x2; rw [hx]; rfl
  have e1 : x2 s 1 = (cutS (w3 s 1) [47]).2.1 := by unfold x2; rw [hx]; rfl
  obtain ⟨a, b, c, d, e⟩ := h
  by_cases hl : (nums (cutS (w3 s 1) [47]).1).1.length = (nums (cutS (w3 s 1) [47]).2.1).1.length
  · rw [if_pos hl]; unfold readP0 readQ
    rw [if_pos ⟨h3, by rw [hx]; rfl, a, by rw [e0]; exact c, by rw [e1]; exact d, e, by rw [e0, e1]; exact hl⟩, e0, e1]
  · rw [if_neg hl]
    exact readP0_no fun ⟨_, _, _, _, _, _, h9⟩ => hl (by rw [e0, e1] at h9; exact h9)
theorem read_text {s : List UInt8} (h3 : (split 32 s).length = 3) (h : first5 s) : s = dec (readQ s).player ++ 32 :: ((joinT (nums (cutS (w3 s 1) [47]).1).1 ++ 47 :: joinT (nums (cutS (w3 s 1) [47]).2.1).1) ++ 32 :: joinT (readQ s).stores) := by
  have hx := first_x h
  have hj := joinW_split 32 s
  have hk := joinW_split 47 (w3 s 1)
  rw [hx] at hk
  obtain ⟨w0, w1, w2, hw⟩ : ∃ w0 w1 w2, split 32 s = [w0, w1, w2] := by
    match hs : split 32 s, h3 with
    | [w0, w1, w2], _ => exact ⟨w0, w1, w2, rfl⟩
  have e0 : w3 s 0 = w0 := by unfold w3; rw [hw]; rfl
  have e1 : w3 s 1 = w1 := by unfold w3; rw [hw]; rfl
  have e2 : w3 s 2 = w2 := by unfold w3; rw [hw]; rfl
  obtain ⟨a, b, c, d, e⟩ := h
  unfold readQ
  show s = dec (num (w3 s 0)).1 ++ 32 :: ((joinT (nums (cutS (w3 s 1) [47]).1).1 ++ 47 :: joinT (nums (cutS (w3 s 1) [47]).2.1).1) ++ 32 :: joinT (nums (w3 s 2)).1)
  rw [num_dec a, nums_dec c, nums_dec d, nums_dec e]
  have hk : (cutS (w3 s 1) [47]).1 ++ 47 :: (cutS (w3 s 1) [47]).2.1 = w3 s 1 := hk
  rw [hk, e0, e1, e2]
  rw [hw] at hj
  exact hj.symm
theorem app_inj {b : UInt8} : ∀ {p q x y : List UInt8}, b ∉ p → b ∉ q → p ++ b :: x = q ++ b :: y → p = q ∧ x = y
  | [], [], x, y, _, _, h => ⟨rfl, by simpa using h⟩
  | [], c :: q, x, y, _, hq, h => by simp at h; exact absurd h.1 (fun e => hq (by simp [e]))
  | c :: p, [], x, y, hp, _, h => by simp at h; exact absurd h.1 (fun e => hp (by simp [e]))
  | c :: p, d :: q, x, y, hp, hq, h => by
    simp only [List.cons_append, List.cons.injEq] at h
    obtain ⟨rfl, h⟩ := h
    obtain ⟨h1, h2⟩ := app_inj (fun hm => hp (List.mem_cons_of_mem _ hm)) (fun hm => hq (List.mem_cons_of_mem _ hm)) h
    exact ⟨by rw [h1], h2⟩
theorem posText_eq (p : Pos) : posText p = dec p.player ++ 32 :: ((joinT (p.pits.take (p.pits.length / 2)) ++ 47 :: joinT (p.pits.drop (p.pits.length / 2))) ++ 32 :: joinT p.stores) := by
  unfold posText; simp
theorem read_same {r : Rul} {s : List UInt8} (h3 : (split 32 s).length = 3) (h : first5 s) (ho : okP r (readQ s) = true) : posText (readQ s) = s ↔ (nums (cutS (w3 s 1) [47]).1).1.length = (nums (cutS (w3 s 1) [47]).2.1).1.length := by
  have ht := read_text h3 h
  obtain ⟨a, b, c, d, e⟩ := h
  have hp : (readQ s).pits = (nums (cutS (w3 s 1) [47]).1).1 ++ (nums (cutS (w3 s 1) [47]).2.1).1 := rfl
  constructor
  · intro he
    rw [posText_eq] at he
    replace he := he.trans ht
    obtain ⟨_, he⟩ := app_inj (b := 32) (dec_no (c := 32) (.inl rfl)) (dec_no (c := 32) (.inl rfl)) he
    have nb : ∀ x y : List Int, (32 : UInt8) ∉ joinT x ++ 47 :: joinT y := fun x y hm => by
      rcases List.mem_append.1 hm with hm | hm
      · exact joinT_no (c := 32) (.inl rfl) hm
      · rcases List.mem_cons.1 hm with hm | hm
        · exact absurd hm (by decide)
        · exact joinT_no (c := 32) (.inl rfl) hm
    obtain ⟨he, _⟩ := app_inj (b := 32) (nb _ _) (nb _ _) he
    obtain ⟨he, _⟩ := app_inj (b := 47) (joinT_no (c := 47) (.inr rfl)) (joinT_no (c := 47) (.inr rfl)) he
    have hb := okP_bd ho
    have hne : (readQ s).pits.take ((readQ s).pits.length / 2) ≠ [] := fun hn => by
      have := congrArg List.length hn
      rw [List.length_take, List.length_nil] at this; omega
    have hnc : (nums (cutS (w3 s 1) [47]).1).1 ≠ [] := nums_ne (s := (cutS (w3 s 1) [47]).1) c
    have := joinT_inj_len (a := (readQ s).pits.take ((readQ s).pits.length / 2)) (b := (nums (cutS (w3 s 1) [47]).1).1) hne hnc he
    rw [List.length_take] at this
    have hl := congrArg List.length hp
    rw [List.length_append] at hl
    omega
  · intro hl
    have h2 : (readQ s).pits.length / 2 = (nums (cutS (w3 s 1) [47]).1).1.length := by rw [hp, List.length_append]; omega
    rw [posText_eq, h2, hp, List.take_left, List.drop_left]
    exact ht.symm
theorem w3_get {s : List UInt8} {i : Nat} (h : i < (split 32 s).length) : (split 32 s)[i]? = some (w3 s i) := by
  unfold w3; rw [List.getD_eq_getElem?_getD, List.getElem?_eq_getElem h]; rfl
theorem w3_len {s : List UInt8} {i : Nat} : (w3 s i).length ≤ s.length := by
  by_cases h : i < (split 32 s).length
  · exact split_mem 32 s _ (List.mem_of_getElem? (w3_get h))
  · unfold w3; rw [List.getD_eq_getElem?_getD, List.getElem?_eq_none (Nat.le_of_not_lt h)]; simp
theorem x2_get {s : List UInt8} {i : Nat} (h : i < (split 47 (w3 s 1)).length) : (split 47 (w3 s 1))[i]? = some (x2 s i) := by
  unfold x2; rw [List.getD_eq_getElem?_getD, List.getElem?_eq_getElem h]; rfl
theorem x2_len {s : List UInt8} {i : Nat} : (x2 s i).length ≤ s.length := by
  by_cases h : i < (split 47 (w3 s 1)).length
  · exact Nat.le_trans (split_mem 47 _ _ (List.mem_of_getElem? (x2_get h))) w3_len
  · unfold x2; rw [List.getD_eq_getElem?_getD, List.getElem?_eq_none (Nat.le_of_not_lt h)]; simp
theorem cutS_len2 (s sep : List UInt8) : (cutS s sep).1.length + (cutS s sep).2.1.length ≤ s.length := by
  unfold cutS; split
  · rename_i k h
    rw [List.find?_range_eq_some] at h
    have := h.1; unfold hit at this; simp only [Bool.and_eq_true, decide_eq_true_eq] at this
    simp only [List.length_take, List.length_drop]; omega
  · simp
theorem x2_sum {s : List UInt8} (h : (split 47 (w3 s 1)).length = 2) : (x2 s 0).length + (x2 s 1).length + 1 = (w3 s 1).length := by
  have hj := joinW_split 47 (w3 s 1)
  obtain ⟨a, b, hw⟩ : ∃ a b, split 47 (w3 s 1) = [a, b] := by
    match hs : split 47 (w3 s 1), h with
    | [a, b], _ => exact ⟨a, b, rfl⟩
  have e0 : x2 s 0 = a := by unfold x2; rw [hw]; rfl
  have e1 : x2 s 1 = b := by unfold x2; rw [hw]; rfl
  rw [hw] at hj
  rw [e0, e1, ← hj]
  simp [joinW]; omega
theorem readP_short {r : Rul} {s : List UInt8} (h : (split 32 s).length ≠ 3) : readP r s = (Pos.zero, false) :=
  readP_no (congrArg Prod.snd (readP0_no fun ⟨h1, _⟩ => h h1))
theorem readP_first {r : Rul} {s : List UInt8} (h : ¬ first5 s) : readP r s = (Pos.zero, false) := readP_no (congrArg Prod.snd (first_no h))
theorem readP_bad {r : Rul} {s : List UInt8} (h3 : (split 32 s).length = 3) (h : first5 s) (hb : okP r (readQ s) = false ∨ posTextR r (readQ s) ≠ s) : readP r s = (Pos.zero, false) := by
  have hf := first_yes h3 h
  by_cases hl : (nums (cutS (w3 s 1) [47]).1).1.length = (nums (cutS (w3 s 1) [47]).2.1).1.length
  · rw [if_pos hl] at hf
    unfold readP
    rw [if_neg]
    rintro ⟨h1, h2⟩
    rw [hf] at h2
    rcases hb with hb | hb
    · rw [hb] at h2; exact absurd h2 (by simp)
    · apply hb
      rw [posTextR_yes h2]
      exact (read_same h3 h h2).2 hl
  · rw [if_neg hl] at hf
    exact readP_no (congrArg Prod.snd hf)
theorem readP_good {r : Rul} {s : List UInt8} (h3 : (split 32 s).length = 3) (h : first5 s) (ho : okP r (readQ s) = true) (ht : posTextR r (readQ s) = s) : readP r s = (readQ s, true) := by
  have hf := first_yes h3 h
  rw [posTextR_yes ho] at ht
  rw [if_pos ((read_same h3 h ho).1 ht)] at hf
  unfold readP
  rw [if_pos ⟨by rw [hf], by rw [hf]; exact ho⟩, hf]
theorem readP_ok {r : Rul} {s : List UInt8} (h : (readP r s).2 = true) : okP r (readP r s).1 = true ∧ (readP r s).1 = readQ s ∧ (split 32 s).length = 3 ∧ first5 s := by
  by_cases h3 : (split 32 s).length = 3
  · by_cases hf : first5 s
    · by_cases hb : okP r (readQ s) = false ∨ posTextR r (readQ s) ≠ s
      · rw [readP_bad h3 hf hb] at h; exact absurd h (by simp)
      · simp only [not_or, Bool.not_eq_false, Classical.not_not] at hb
        have e := readP_good h3 hf hb.1 hb.2
        rw [e]; exact ⟨hb.1, rfl, h3, hf⟩
    · rw [readP_first hf] at h; exact absurd h (by simp)
  · rw [readP_short h3] at h; exact absurd h (by simp)
theorem readP_zero {r : Rul} {s : List UInt8} (h : (readP r s).2 = false) : (readP r s).1 = Pos.zero := by
  unfold readP at h ⊢
  split
  · rename_i h1; rw [if_pos h1] at h; exact absurd h (by simp)
  · rfl
theorem readP0_yes {s : List UInt8} (h : (split 32 s).length = 3 ∧ (split 47 (w3 s 1)).length = 2 ∧ (num (w3 s 0)).2 = true ∧ (nums (x2 s 0)).2 = true ∧ (nums (x2 s 1)).2 = true ∧ (nums (w3 s 2)).2 = true ∧ (nums (x2 s 0)).1.length = (nums (x2 s 1)).1.length) :
    readP0 s = (⟨(nums (x2 s 0)).1 ++ (nums (x2 s 1)).1, (nums (w3 s 2)).1, (num (w3 s 0)).1⟩, true) := by unfold readP0; rw [if_pos h]
theorem readP_y {r : Rul} {s : List UInt8} (h1 : (readP0 s).2 = true) (h2 : okP r (readP0 s).1 = true) : readP r s = ((readP0 s).1, true) := by unfold readP; rw [if_pos ⟨h1, h2⟩]
theorem readP_n {r : Rul} {s : List UInt8} (h : ¬ ((readP0 s).2 = true ∧ okP r (readP0 s).1 = true)) : readP r s = (Pos.zero, false) := by unfold readP; rw [if_neg h]
theorem readP0_len (s : List UInt8) : (readP0 s).1.pits.length ≤ s.length + 2 ∧ (readP0 s).1.stores.length ≤ s.length + 1 := by
  unfold readP0; split
  · rename_i h
    have a := nums_len (x2 s 0); have b := nums_len (x2 s 1); have c := nums_len (w3 s 2)
    have d := x2_sum h.2.1; have e := w3_len (s := s) (i := 1); have f := w3_len (s := s) (i := 2)
    simp only [List.length_append]; omega
  · simp [Pos.zero]
def w5 (s : List UInt8) : List UInt8 := w3 s 0 ++ [32] ++ w3 s 1 ++ [32] ++ w3 s 2
theorem cutS_at {s sep : List UInt8} (h : (cutS s sep).2.2 = true) : s = (cutS s sep).1 ++ sep ++ (cutS s sep).2.1 := by
  unfold cutS at h ⊢
  split
  · rename_i k hk
    rw [List.find?_range_eq_some] at hk
    obtain ⟨h1, _, _⟩ := hk
    unfold hit at h1
    simp only [Bool.and_eq_true, decide_eq_true_eq] at h1
    show s = s.take k ++ sep ++ s.drop (k + sep.length)
    have : s.drop k = sep ++ s.drop (k + sep.length) := by
      rw [← List.drop_drop]
      conv => rhs; lhs; rw [← h1.2]
      exact (List.take_append_drop _ _).symm
    rw [List.append_assoc, ← this, List.take_append_drop]
  · rename_i hk
    rw [hk] at h; exact absurd h (by simp)
def d2 (n : Nat) : List UInt8 := if n < 10 then [UInt8.ofNat (48 + n)] else [UInt8.ofNat (48 + n / 10), UInt8.ofNat (48 + n % 10)]
def whole (s : List UInt8) : Bool := decide ((split 10 s).getLast? = some [])
def recL (s : List UInt8) : List (List UInt8) := if whole s = true then (split 10 s).dropLast else split 10 s
theorem whole_nil : whole [] = true := by decide
theorem recL_nil : recL [] = [] := by decide
theorem recL_more {s : List UInt8} (h : (cutS s [10]).2.2 = true) : recL s = (cutS s [10]).1 :: recL (cutS s [10]).2.1 ∧ whole s = whole (cutS s [10]).2.1 ∧ (cutS s [10]).2.1.length < s.length := by
  rcases cutS_one 10 s with ⟨_, h2, h3⟩ | ⟨h2, _⟩
  · have hne := split_ne 10 (cutS s [10]).2.1
    have hw : whole s = whole (cutS s [10]).2.1 := by
      unfold whole; rw [h2, List.getLast?_cons]
      cases e : split 10 (cutS s [10]).2.1 with
      | nil => exact absurd e hne
      | cons a l => rw [List.getLast?_eq_some_getLast (by simp : a :: l ≠ [])]; simp
    refine ⟨?_, hw, h3⟩
    unfold recL
    rw [hw, h2]
    split
    · rw [List.dropLast_cons_of_ne_nil hne]
    · rfl
  · rw [h] at h2; exact absurd h2 (by decide)
theorem recL_last {s : List UInt8} (h : (cutS s [10]).2.2 = false) (hne : s ≠ []) : recL s = [(cutS s [10]).1] ∧ whole s = false := by
  rcases cutS_one 10 s with ⟨h2, _⟩ | ⟨_, h2⟩
  · rw [h] at h2; exact absurd h2 (by decide)
  · have hc : (cutS s [10]).1 = s := by
      have := joinW_split (b := 10) (s := s)
      rw [h2] at this; simpa [joinW] using this
    have hw : whole s = false := by
      unfold whole; rw [h2, hc]; simp [hne]
    refine ⟨?_, hw⟩
    unfold recL; rw [hw, if_neg (by decide), h2]
structure LinI (s cur : List UInt8) (out : List (List UInt8)) (e : Bool) : Prop where
  h : out ++ recL cur = recL s
  w : (e && whole cur) = whole s
theorem LinI.zero (s : List UInt8) : LinI s s [] true := ⟨rfl, by simp⟩
theorem LinI.more {s cur : List UInt8} {out : List (List UInt8)} {e : Bool} (h : LinI s cur out e) (hc : (cutS cur [10]).2.2 = true) : LinI s (cutS cur [10]).2.1 (out ++ [(cutS cur [10]).1]) e := by
  obtain ⟨a, b, _⟩ := recL_more hc
  exact ⟨by rw [← h.h, a]; simp, by rw [← h.w, b]⟩
theorem LinI.last {s cur : List UInt8} {out : List (List UInt8)} {e : Bool} (h : LinI s cur out e) (hc : (cutS cur [10]).2.2 = false) (hne : cur ≠ []) : LinI s [] (out ++ [(cutS cur [10]).1]) false := by
  obtain ⟨a, b⟩ := recL_last hc hne
  exact ⟨by rw [← h.h, a, recL_nil]; simp, by rw [← h.w, b]; simp⟩
theorem LinI.done {s : List UInt8} {out : List (List UInt8)} {e : Bool} (h : LinI s [] out e) : out = recL s ∧ e = whole s := ⟨by rw [← h.h, recL_nil]; simp, by rw [← h.w, whole_nil]; simp⟩
theorem recL_len (s : List UInt8) : (recL s).length ≤ s.length + 1 := by
  have := split_len 10 s
  unfold recL; split
  · rw [List.length_dropLast]; omega
  · exact this
theorem LinI.len {s cur : List UInt8} {out : List (List UInt8)} {e : Bool} (h : LinI s cur out e) : out.length ≤ s.length + 1 := by
  have := recL_len s; rw [← h.h, List.length_append] at this; omega
theorem LinI.mem {s cur : List UInt8} {out : List (List UInt8)} {e : Bool} (h : LinI s cur out e) : ∀ w ∈ out, w.length ≤ s.length := fun w hw => by
  have h1 : w ∈ recL s := by rw [← h.h]; simp [hw]
  have h2 : w ∈ split 10 s := by
    unfold recL at h1; split at h1
    · exact List.dropLast_subset _ h1
    · exact h1
  exact split_mem 10 s w h2
def numI (t : List UInt8) : (Int × Int × Int) × Bool :=
  (((num (cutS t [46, 32]).1).1, (num (cutS (cutS t [46, 32]).2.1 [43]).1).1, (num (cutS (cutS t [46, 32]).2.1 [43]).2.1).1),
   (cutS t [46, 32]).2.2 && (cutS (cutS t [46, 32]).2.1 [43]).2.2 && (num (cutS t [46, 32]).1).2 && (num (cutS (cutS t [46, 32]).2.1 [43]).1).2 && (num (cutS (cutS t [46, 32]).2.1 [43]).2.1).2)
def w0 (t : List UInt8) : List UInt8 := (split 32 t).getD 0 []
def w1 (t : List UInt8) : List UInt8 := (split 32 t).getD 1 []
def v0 (t : List UInt8) : List UInt8 := (split 43 (w1 t)).getD 0 []
def v1 (t : List UInt8) : List UInt8 := (split 43 (w1 t)).getD 1 []
def fmS (t : List UInt8) : Prop := (split 32 t).length = 2 ∧ 2 ≤ (w0 t).length ∧ (w0 t)[(w0 t).length - 1]? = some 46 ∧ (split 43 (w1 t)).length = 2
instance (t : List UInt8) : Decidable (fmS t) := by unfold fmS; infer_instance
def numR (t : List UInt8) : (Int × Int × Int) × Bool :=
  if fmS t then (((num ((w0 t).take ((w0 t).length - 1))).1, (num (v0 t)).1, (num (v1 t)).1), (num ((w0 t).take ((w0 t).length - 1))).2 && (num (v0 t)).2 && (num (v1 t)).2) else ((0, 0, 0), false)
theorem dec_no2 {n : Int} {c : UInt8} (hc : c = 32 ∨ c = 43 ∨ c = 46 ∨ c = 10) : c ∉ dec n := fun h => by
  have := dec_B h
  rcases hc with rfl | rfl | rfl | rfl <;> (rcases this with h | ⟨h1, h2⟩ <;> first | exact absurd h (by decide) | exact absurd h1 (by decide) | exact absurd h2 (by decide))
theorem num_no2 {s : List UInt8} {c : UInt8} (h : (num s).2 = true) (hc : c = 32 ∨ c = 43 ∨ c = 46 ∨ c = 10) : c ∉ s := by
  rw [← num_dec h]; exact dec_no2 hc
theorem num_ne {s : List UInt8} (h : (num s).2 = true) : s ≠ [] := by rintro rfl; exact absurd h (by decide)
theorem cutS_dot {a r : List UInt8} (h : (46 : UInt8) ∉ a) : cutS (a ++ 46 :: 32 :: r) [46, 32] = (a, r, true) := by
  rw [cutS_yes (k := a.length) (by simp) (by simp) (fun i hi he => ?_)]
  · simp
  · rw [List.drop_append_of_le_length (by omega)] at he
    have hm : (a.drop i ++ 46 :: 32 :: r)[0]? = some 46 := by
      have := congrArg (·[0]?) he
      simpa using this
    rw [List.getElem?_append_left (by rw [List.length_drop]; omega), List.getElem?_drop] at hm
    exact h (List.mem_of_getElem? hm)
theorem cutS_plus {a r : List UInt8} (h : (43 : UInt8) ∉ a) : cutS (a ++ 43 :: r) [43] = (a, r, true) := by
  rw [cutS_yes (k := a.length) (by simp) (by simp) (fun i hi he => ?_)]
  · simp
  · rw [List.drop_append_of_le_length (by omega)] at he
    have hm : (a.drop i ++ 43 :: r)[0]? = some 43 := by
      have := congrArg (·[0]?) he
      simpa using this
    rw [List.getElem?_append_left (by rw [List.length_drop]; omega), List.getElem?_drop] at hm
    exact h (List.mem_of_getElem? hm)
structure Nums (t a b c : List UInt8) : Prop where
  e : t = a ++ 46 :: 32 :: (b ++ 43 :: c)
  a : (num a).2 = true
  b : (num b).2 = true
  c : (num c).2 = true
theorem Nums.i {t a b c : List UInt8} (h : Nums t a b c) : numI t = (((num a).1, (num b).1, (num c).1), true) := by
  have e1 := cutS_dot (r := b ++ 43 :: c) (num_no2 h.a (.inr (.inr (.inl rfl))))
  have e2 := cutS_plus (r := c) (num_no2 h.b (.inr (.inl rfl)))
  unfold numI
  rw [h.e, e1]; dsimp only; rw [e2]; dsimp only; rw [h.a, h.b, h.c]; rfl
theorem Nums.s {t a b c : List UInt8} (h : Nums t a b c) : numR t = (((num a).1, (num b).1, (num c).1), true) := by
  have na := num_no2 h.a (.inl rfl); have nb := num_no2 h.b (.inl rfl); have nc := num_no2 h.c (.inl rfl)
  have pb := num_no2 h.b (.inr (.inl rfl)); have pc := num_no2 h.c (.inr (.inl rfl))
  have hs : split 32 t = [a ++ [46], b ++ 43 :: c] := by
    rw [h.e, show a ++ 46 :: 32 :: (b ++ 43 :: c) = (a ++ [46]) ++ 32 :: (b ++ 43 :: c) by simp, split_app 32 _ _ (by simp [na]), split_last 32 _ (by simp [nb, nc])]
  have h0 : w0 t = a ++ [46] := by unfold w0; rw [hs]; rfl
  have h1 : w1 t = b ++ 43 :: c := by unfold w1; rw [hs]; rfl
  have hv : split 43 (w1 t) = [b, c] := by rw [h1, split_app 43 _ _ pb, split_last 43 _ pc]
  have e0 : v0 t = b := by unfold v0; rw [hv]; rfl
  have e1 : v1 t = c := by unfold v1; rw [hv]; rfl
  have hl := List.length_pos_iff.2 (num_ne h.a)
  have hf : fmS t := ⟨by rw [hs]; rfl, by rw [h0]; simp; omega, by rw [h0]; simp, by rw [hv]; rfl⟩
  have ht : (w0 t).take ((w0 t).length - 1) = a := by rw [h0]; simp
  unfold numR
  rw [if_pos hf, ht, e0, e1, h.a, h.b, h.c]; rfl
theorem numI_of {t : List UInt8} (h : (numI t).2 = true) : ∃ a b c, Nums t a b c := by
  unfold numI at h
  simp only [Bool.and_eq_true] at h
  obtain ⟨⟨⟨⟨h1, h2⟩, h3⟩, h4⟩, h5⟩ := h
  have e1 := cutS_at h1; have e2 := cutS_at h2
  exact ⟨_, _, _, ⟨by conv => lhs; rw [e1, e2]
                      simp, h3, h4, h5⟩⟩
theorem split2 {b : UInt8} {s : List UInt8} (h : (split b s).length = 2) : s = (split b s).getD 0 [] ++ b :: (split b s).getD 1 [] := by
  have hj := joinW_split (b := b) (s := s)
  match hs : split b s, h with
  | [x, y], _ => rw [hs] at hj; simpa [joinW] using hj.symm
theorem numR_of {t : List UInt8} (h : (numR t).2 = true) : ∃ a b c, Nums t a b c := by
  unfold numR at h
  split at h
  · rename_i hf
    obtain ⟨f1, f2, f3, f4⟩ := hf
    simp only [Bool.and_eq_true] at h
    obtain ⟨⟨h1, h2⟩, h3⟩ := h
    have e1 : t = w0 t ++ 32 :: w1 t := split2 f1
    have e2 : w1 t = v0 t ++ 43 :: v1 t := split2 f4
    have e0 : w0 t = (w0 t).take ((w0 t).length - 1) ++ [46] := by
      obtain ⟨hk, hv⟩ := List.getElem?_eq_some_iff.1 f3
      conv => lhs; rw [← List.take_append_drop ((w0 t).length - 1) (w0 t), List.drop_eq_getElem_cons hk, hv]
      rw [List.drop_eq_nil_of_le (by omega)]
    exact ⟨_, _, _, ⟨by conv => lhs; rw [e1, e0, e2]
                        simp, h1, h2, h3⟩⟩
  · exact absurd h (by decide)
theorem num3_law (t : List UInt8) : (numI t).2 = (numR t).2 ∧ ((numI t).2 = true → numI t = numR t) := by
  by_cases h : (numI t).2 = true
  · obtain ⟨a, b, c, hn⟩ := numI_of h
    rw [hn.i, hn.s]; exact ⟨rfl, fun _ => rfl⟩
  · by_cases h2 : (numR t).2 = true
    · obtain ⟨a, b, c, hn⟩ := numR_of h2
      rw [hn.i] at h; exact absurd rfl h
    · refine ⟨?_, fun h9 => absurd h9 h⟩
      rw [Bool.not_eq_true] at h h2; rw [h, h2]
def rulesW : List UInt8 := [114, 117, 108, 101, 115]
def startW : List UInt8 := [115, 116, 97, 114, 116]
def res0 : List UInt8 := [114, 101, 115, 105, 103, 110, 115, 32, 48]
def res1 : List UInt8 := [114, 101, 115, 105, 103, 110, 115, 32, 49]
def aft (t w : List UInt8) : List UInt8 × Bool := if ¬ t.length < w.length + 1 ∧ t.take (w.length + 1) = w ++ [32] then (t.drop (w.length + 1), true) else ([], false)
theorem aft_y {t w : List UInt8} (h1 : ¬ t.length < w.length + 1) (h2 : t.take (w.length + 1) = w ++ [32]) : aft t w = (t.drop (w.length + 1), true) := if_pos ⟨h1, h2⟩
theorem aft_n {t w : List UInt8} (h : ¬ (¬ t.length < w.length + 1 ∧ t.take (w.length + 1) = w ++ [32])) : aft t w = ([], false) := if_neg h
theorem aft_len (t w : List UInt8) : (aft t w).1.length ≤ t.length := by
  unfold aft; split
  · simp
  · simp
theorem aft_eq {t w : List UInt8} (h : (aft t w).2 = true) : t = w ++ 32 :: (aft t w).1 := by
  unfold aft at *
  split at h
  · rename_i hc
    rw [if_pos hc]
    conv => lhs; rw [← List.take_append_drop (w.length + 1) t, hc.2]
    simp
  · exact absurd h (by decide)
theorem aft_of {t w x : List UInt8} (h : t = w ++ 32 :: x) : aft t w = (x, true) := by
  subst h
  rw [aft_y (by simp) (by rw [show w ++ 32 :: x = (w ++ [32]) ++ x by simp, List.take_append_of_le_length (by simp)]; exact List.take_of_length_le (by simp))]
  rw [show w ++ 32 :: x = (w ++ [32]) ++ x by simp, List.drop_append_of_le_length (by simp), List.drop_of_length_le (by simp)]; rfl
theorem cutS_byte {b : UInt8} {a r : List UInt8} (h : b ∉ a) : cutS (a ++ b :: r) [b] = (a, r, true) := by
  rw [cutS_yes (k := a.length) (by simp) (by simp) (fun i hi he => ?_)]
  · simp
  · rw [List.drop_append_of_le_length (by omega)] at he
    have hm : (a.drop i ++ b :: r)[0]? = some b := by
      have := congrArg (·[0]?) he
      simpa using this
    rw [List.getElem?_append_left (by rw [List.length_drop]; omega), List.getElem?_drop] at hm
    exact h (List.mem_of_getElem? hm)
theorem cutS_none {s sep : List UInt8} (h : (cutS s sep).2.2 = false) : (cutS s sep).2.1 = [] := by
  unfold cutS at *; split at h
  · exact absurd h (by simp)
  · rfl
theorem word_law {α : Type} {t w : List UInt8} (f : List UInt8 → α × Bool) (hw : (32 : UInt8) ∉ w) (hf : (f []).2 = false) :
    (((cutS t [32]).1 = w ∧ (f (cutS t [32]).2.1).2 = true) ↔ ((aft t w).2 = true ∧ (f (aft t w).1).2 = true)) ∧ ((aft t w).2 = true → (cutS t [32]).2.1 = (aft t w).1) := by
  have hy : (aft t w).2 = true → cutS t [32] = (w, (aft t w).1, true) := fun h => by
    have := aft_eq h
    generalize (aft t w).1 = x at *
    rw [this]; exact cutS_byte hw
  refine ⟨⟨fun ⟨h1, h2⟩ => ?_, fun ⟨h1, h2⟩ => ?_⟩, fun h => by rw [hy h]⟩
  · cases hc : (cutS t [32]).2.2 with
    | true =>
      have he := cutS_at hc
      rw [h1] at he
      have he2 : t = w ++ 32 :: (cutS t [32]).2.1 := he.trans (by simp)
      rw [aft_of he2]; exact ⟨rfl, h2⟩
    | false => rw [cutS_none hc, hf] at h2; exact absurd h2 (by decide)
  · rw [hy h1]; exact ⟨rfl, h2⟩
theorem readR_nil : (readR []).2 = false := by
  cases h : (readR []).2 with
  | false => rfl
  | true =>
    have hc : ¬ ((chkT []).2.1 = []) := by decide +kernel
    exact absurd (readR_one h).2.1 hc
theorem readP_nil (r : Rul) : (readP r []).2 = false := by rw [readP_short (by decide)]
def head0 (g : Gam) (t : List UInt8) : Gam × Int :=
  if (cutS t [32]).1 = rulesW ∧ (readR (cutS t [32]).2.1).2 = true then (⟨(readR (cutS t [32]).2.1).1, g.start, g.moves, g.now, g.resigned⟩, 0) else (g, 1)
def head1 (g : Gam) (t : List UInt8) : Gam × Int :=
  if (cutS t [32]).1 = startW ∧ (readP g.rules (cutS t [32]).2.1).2 = true then (freshG g.rules (readP g.rules (cutS t [32]).2.1).1, 0) else (g, 2)
def headI (g : Gam) (at_ : Int) (t : List UInt8) : Gam × Int := if at_ = 0 then head0 g t else head1 g t
section
variable {g : Gam} {t : List UInt8} {at_ : Int}
theorem headI_0y (h : at_ = 0) (h1 : (cutS t [32]).1 = rulesW) (h2 : (readR (cutS t [32]).2.1).2 = true) : headI g at_ t = (⟨(readR (cutS t [32]).2.1).1, g.start, g.moves, g.now, g.resigned⟩, 0) := by unfold headI head0; rw [if_pos h, if_pos ⟨h1, h2⟩]
theorem headI_0n (h : at_ = 0) (h1 : ¬ ((cutS t [32]).1 = rulesW ∧ (readR (cutS t [32]).2.1).2 = true)) : headI g at_ t = (g, 1) := by unfold headI head0; rw [if_pos h, if_neg h1]
theorem headI_1y (h : ¬ at_ = 0) (h1 : (cutS t [32]).1 = startW) (h2 : (readP g.rules (cutS t [32]).2.1).2 = true) : headI g at_ t = (freshG g.rules (readP g.rules (cutS t [32]).2.1).1, 0) := by unfold headI head1; rw [if_neg h, if_pos ⟨h1, h2⟩]
theorem headI_1n (h : ¬ at_ = 0) (h1 : ¬ ((cutS t [32]).1 = startW ∧ (readP g.rules (cutS t [32]).2.1).2 = true)) : headI g at_ t = (g, 2) := by unfold headI head1; rw [if_neg h, if_neg h1]
end
def headS (l0 l1 : List UInt8) (tw : Bool) : Gam × Int × Int :=
  if ¬ ((aft l0 rulesW).2 = true ∧ (readR (aft l0 rulesW).1).2 = true) then (Gam.zero, 0, 1) else if tw = true then (Gam.zero, 0, 7) else
  if ¬ ((aft l1 startW).2 = true ∧ (readP (readR (aft l0 rulesW).1).1 (aft l1 startW).1).2 = true) then (Gam.zero, 1, 2) else (freshG (readR (aft l0 rulesW).1).1 (readP (readR (aft l0 rulesW).1).1 (aft l1 startW).1).1, 0, 0)
section
variable {l0 l1 : List UInt8} {tw : Bool}
theorem headS_1 (h : ¬ ((aft l0 rulesW).2 = true ∧ (readR (aft l0 rulesW).1).2 = true)) : headS l0 l1 tw = (Gam.zero, 0, 1) := if_pos h
theorem headS_7 (h : (aft l0 rulesW).2 = true ∧ (readR (aft l0 rulesW).1).2 = true) (h2 : tw = true) : headS l0 l1 tw = (Gam.zero, 0, 7) := by unfold headS; rw [if_neg (fun k => k h), if_pos h2]
theorem headS_2 (h : (aft l0 rulesW).2 = true ∧ (readR (aft l0 rulesW).1).2 = true) (h2 : ¬ tw = true) (h3 : ¬ ((aft l1 startW).2 = true ∧ (readP (readR (aft l0 rulesW).1).1 (aft l1 startW).1).2 = true)) : headS l0 l1 tw = (Gam.zero, 1, 2) := by unfold headS; rw [if_neg (fun k => k h), if_neg h2, if_pos h3]
theorem headS_0 (h : (aft l0 rulesW).2 = true ∧ (readR (aft l0 rulesW).1).2 = true) (h2 : ¬ tw = true) (h3 : (aft l1 startW).2 = true ∧ (readP (readR (aft l0 rulesW).1).1 (aft l1 startW).1).2 = true) : headS l0 l1 tw = (freshG (readR (aft l0 rulesW).1).1 (readP (readR (aft l0 rulesW).1).1 (aft l1 startW).1).1, 0, 0) := by unfold headS; rw [if_neg (fun k => k h), if_neg h2, if_neg (fun k => k h3)]
end
def nextR (g : Gam) (x : (Int × Int × Int) × Bool) : Gam × Int :=
  if x.2 = false then (Gam.zero, 3) else if ¬ x.1.1 = (g.moves.length : Int) + 1 then (Gam.zero, 4) else if ¬ (play g x.1.2.1).2 = 0 then (Gam.zero, 5) else
  if ¬ (make g.rules g.now x.1.2.1).1.gain = x.1.2.2 then (Gam.zero, 6) else ((play g x.1.2.1).1, 0)
section
variable {g : Gam} {x : (Int × Int × Int) × Bool}
theorem nextR_3 (h : x.2 = false) : nextR g x = (Gam.zero, 3) := if_pos h
theorem nextR_4 (h : x.2 = true) (h1 : ¬ x.1.1 = (g.moves.length : Int) + 1) : nextR g x = (Gam.zero, 4) := by unfold nextR; rw [if_neg (by simp [h]), if_pos h1]
theorem nextR_5 (h : x.2 = true) (h1 : x.1.1 = (g.moves.length : Int) + 1) (h2 : ¬ (play g x.1.2.1).2 = 0) : nextR g x = (Gam.zero, 5) := by unfold nextR; rw [if_neg (by simp [h]), if_neg (fun k => k h1), if_pos h2]
theorem nextR_6 (h : x.2 = true) (h1 : x.1.1 = (g.moves.length : Int) + 1) (h2 : (play g x.1.2.1).2 = 0) (h3 : ¬ (make g.rules g.now x.1.2.1).1.gain = x.1.2.2) : nextR g x = (Gam.zero, 6) := by unfold nextR; rw [if_neg (by simp [h]), if_neg (fun k => k h1), if_neg (fun k => k h2), if_pos h3]
theorem nextR_0 (h : x.2 = true) (h1 : x.1.1 = (g.moves.length : Int) + 1) (h2 : (play g x.1.2.1).2 = 0) (h3 : (make g.rules g.now x.1.2.1).1.gain = x.1.2.2) : nextR g x = ((play g x.1.2.1).1, 0) := by unfold nextR; rw [if_neg (by simp [h]), if_neg (fun k => k h1), if_neg (fun k => k h2), if_neg (fun k => k h3)]
theorem nextR_ok (hg : okG g = true) (h : (nextR g x).2 = 0) : okG (nextR g x).1 = true := by
  unfold nextR at *
  split at h
  · exact absurd h (by decide)
  · rename_i c1; rw [if_neg c1]
    split at h
    · exact absurd h (by decide)
    · rename_i c2; rw [if_neg c2]
      split at h
      · exact absurd h (by decide)
      · rename_i c3; rw [if_neg c3]
        split at h
        · exact absurd h (by decide)
        · rename_i c4; rw [if_neg c4]
          exact play_okG hg (by simpa using c3)
theorem nextR_law (g : Gam) (t : List UInt8) : nextR g (numI t) = nextR g (numR t) := by
  obtain ⟨h1, h2⟩ := num3_law t
  by_cases h : (numI t).2 = true
  · rw [h2 h]
  · have h : (numI t).2 = false := by simpa using h
    rw [nextR_3 h, nextR_3 (h1 ▸ h)]
end
def resG (g : Gam) (k : Int) : Gam := ⟨g.rules, g.start, g.moves, g.now, k⟩
theorem resG_ok {g : Gam} {k : Int} (h : okG g = true) (h0 : -1 ≤ k) (h1 : k ≤ 1) : okG (resG g k) = true := by
  unfold okG at *
  simp only [Bool.and_eq_true] at h ⊢
  exact ⟨⟨⟨h.1.1.1, betw_iff.2 ⟨h0, h1⟩⟩, h.1.2⟩, h.2⟩
def lineI (g : Gam) (t : List UInt8) : Gam × Int :=
  if 0 ≤ g.resigned then (g, 7) else if t = res0 then (resG g 0, 0) else if t = res1 then (resG g 1, 0) else
  if (nextR g (numR t)).2 = 0 then ((nextR g (numR t)).1, 0) else (g, (nextR g (numR t)).2)
section
variable {g : Gam} {t : List UInt8}
theorem lineI_7 (h : 0 ≤ g.resigned) : lineI g t = (g, 7) := if_pos h
theorem lineI_r0 (h : ¬ 0 ≤ g.resigned) (h1 : t = res0) : lineI g t = (resG g 0, 0) := by unfold lineI; rw [if_neg h, if_pos h1]
theorem lineI_r1 (h : ¬ 0 ≤ g.resigned) (h1 : t = res1) : lineI g t = (resG g 1, 0) := by unfold lineI; rw [if_neg h, if_neg (by rw [h1]; decide), if_pos h1]
theorem lineI_y (h : ¬ 0 ≤ g.resigned) (h0 : ¬ t = res0) (h1 : ¬ t = res1) (h2 : (nextR g (numR t)).2 = 0) : lineI g t = ((nextR g (numR t)).1, 0) := by unfold lineI; rw [if_neg h, if_neg h0, if_neg h1, if_pos h2]
theorem lineI_n (h : ¬ 0 ≤ g.resigned) (h0 : ¬ t = res0) (h1 : ¬ t = res1) (h2 : ¬ (nextR g (numR t)).2 = 0) : lineI g t = (g, (nextR g (numR t)).2) := by unfold lineI; rw [if_neg h, if_neg h0, if_neg h1, if_neg h2]
theorem lineI_ok (hg : okG g = true) (h : (lineI g t).2 = 0) : okG (lineI g t).1 = true := by
  by_cases c : 0 ≤ g.resigned
  · rw [lineI_7 c] at h; exact absurd h (show ¬ (7 : Int) = 0 by decide)
  by_cases c0 : t = res0
  · rw [lineI_r0 c c0]; exact resG_ok hg (by decide) (by decide)
  by_cases c1 : t = res1
  · rw [lineI_r1 c c1]; exact resG_ok hg (by decide) (by decide)
  by_cases c2 : (nextR g (numR t)).2 = 0
  · rw [lineI_y c c0 c1 c2]; exact nextR_ok hg c2
  · rw [lineI_n c c0 c1 c2] at h; exact absurd h c2
end
def base (l : List (List UInt8)) (g : Gam) (k : Nat) : Gam × Int :=
  if l.length ≤ k then (g, 1 + (k : Int)) else if k < 2 then headI g k (l.getD k []) else lineI g (l.getD k [])
def flt (l : List (List UInt8)) (e : Bool) (g : Gam) (k : Nat) : Gam × Int :=
  if (base l g k).2 = 0 ∧ k + 1 = l.length ∧ e = false then ((base l g k).1, 7) else base l g k
def goN (l : List (List UInt8)) (e : Bool) : Nat → Nat → Gam → Gam × Int × Int
  | 0, _, g => (g, -1, 0)
  | n + 1, k, g => if (flt l e g k).2 = 0 then goN l e n (k + 1) (flt l e g k).1 else (Gam.zero, (k : Int), (flt l e g k).2)
def chkW (s : List UInt8) : Gam × Int × Int := goN (recL s) (whole s) (max (recL s).length 2) 0 Gam.zero
theorem goN_one (l : List (List UInt8)) (e : Bool) : ∀ n k g, ((goN l e n k g).2.1 = -1 ∧ (goN l e n k g).2.2 = 0) ∨ (0 ≤ (goN l e n k g).2.1 ∧ (goN l e n k g).2.2 ≠ 0 ∧ (goN l e n k g).1 = Gam.zero)
  | 0, k, g => .inl ⟨rfl, rfl⟩
  | n + 1, k, g => by
    rw [goN]; split
    · exact goN_one l e n _ _
    · rename_i h; exact .inr ⟨Int.natCast_nonneg _, h, rfl⟩
theorem chkW_one (s : List UInt8) : ((chkW s).2.1 = -1 ∧ (chkW s).2.2 = 0) ∨ (0 ≤ (chkW s).2.1 ∧ (chkW s).2.2 ≠ 0 ∧ (chkW s).1 = Gam.zero) := goN_one _ _ _ _ _
theorem base_no {l : List (List UInt8)} {g : Gam} {k : Nat} (h : l.length ≤ k) : base l g k = (g, 1 + (k : Int)) := if_pos h
theorem base_h {l : List (List UInt8)} {g : Gam} {k : Nat} {y : List UInt8} (h : l[k]? = some y) (h2 : k < 2) : base l g k = headI g k y := by
  have := (List.getElem?_eq_some_iff.1 h).1
  unfold base; rw [if_neg (by omega), if_pos h2, List.getD_eq_getElem?_getD, h]; rfl
theorem base_l {l : List (List UInt8)} {g : Gam} {k : Nat} {y : List UInt8} (h : l[k]? = some y) (h2 : ¬ k < 2) : base l g k = lineI g y := by
  have := (List.getElem?_eq_some_iff.1 h).1
  unfold base; rw [if_neg (by omega), if_neg h2, List.getD_eq_getElem?_getD, h]; rfl
theorem flt_b {l : List (List UInt8)} {e : Bool} {g : Gam} {k : Nat} {b : Gam × Int} (hb : base l g k = b) (h : ¬ (b.2 = 0 ∧ k + 1 = l.length ∧ e = false)) : flt l e g k = b := by unfold flt; rw [hb, if_neg h]
theorem flt_7 {l : List (List UInt8)} {e : Bool} {g : Gam} {k : Nat} {b : Gam × Int} (hb : base l g k = b) (h : b.2 = 0 ∧ k + 1 = l.length ∧ e = false) : flt l e g k = (b.1, 7) := by unfold flt; rw [hb, if_pos h]
structure RecI (s : List UInt8) (k : Nat) (g : Gam) : Prop where
  h : goN (recL s) (whole s) (max (recL s).length 2 - k) k g = chkW s
  z : k < 2 → g.start = Pos.zero ∧ g.moves = [] ∧ g.now = Pos.zero ∧ g.resigned = 0
  g : 2 ≤ k → okG g = true
theorem RecI.zero (s : List UInt8) : RecI s 0 Gam.zero := ⟨rfl, fun _ => ⟨rfl, rfl, rfl, rfl⟩, fun h => absurd h (by decide)⟩
theorem RecI.bd {s : List UInt8} {k : Nat} {g : Gam} (h : RecI s k g) : g.start.pits.length ≤ 100 ∧ g.start.stores.length ≤ 100 ∧ g.now.pits.length ≤ 100 ∧ g.now.stores.length ≤ 100 ∧ g.moves.length ≤ 120 := by
  by_cases hk : k < 2
  · obtain ⟨a, b, c, _⟩ := h.z hk
    rw [a, b, c]; exact ⟨Nat.zero_le _, Nat.zero_le _, Nat.zero_le _, Nat.zero_le _, Nat.zero_le _⟩
  · have hg := h.g (by omega)
    obtain ⟨p1, p2, _⟩ := okG_parts hg
    obtain ⟨a1, a2, a3, a4, _⟩ := okP_bd p1
    obtain ⟨b1, b2, b3, b4, _⟩ := okP_bd (okG_now hg)
    refine ⟨?_, ?_, ?_, ?_, p2⟩ <;> omega
theorem RecI.step {s : List UInt8} {k : Nat} {g : Gam} {x : Gam × Int} (h : RecI s k g) (hk : k < max (recL s).length 2) (hx : flt (recL s) (whole s) g k = x) (h0 : x.2 = 0) : RecI s (k + 1) x.1 := by
  subst hx
  have hl : base (recL s) g k = flt (recL s) (whole s) g k := by
    by_cases c : (base (recL s) g k).2 = 0 ∧ k + 1 = (recL s).length ∧ whole s = false
    · rw [flt_7 rfl c] at h0; exact absurd h0 (show ¬ (7 : Int) = 0 by decide)
    · exact (flt_b rfl c).symm
  have hlen : k < (recL s).length := by
    by_cases c : (recL s).length ≤ k
    · rw [← hl, base_no c] at h0; exact absurd h0 (by dsimp only; omega)
    · omega
  obtain ⟨y, hy⟩ : ∃ y, (recL s)[k]? = some y := ⟨_, List.getElem?_eq_getElem hlen⟩
  refine ⟨?_, fun h2 => ?_, fun h2 => ?_⟩
  · have := h.h
    rw [show max (recL s).length 2 - k = (max (recL s).length 2 - (k + 1)) + 1 by omega, goN, if_pos h0] at this
    exact this
  · have e0 : k = 0 := by omega
    subst e0
    obtain ⟨a, b, c, d⟩ := h.z (by decide)
    rw [← hl, base_h hy (by decide)] at h0 ⊢
    by_cases hc : (cutS y [32]).1 = rulesW ∧ (readR (cutS y [32]).2.1).2 = true
    · rw [headI_0y (at_ := ((0 : Nat) : Int)) rfl hc.1 hc.2]; exact ⟨a, b, c, d⟩
    · rw [headI_0n (at_ := ((0 : Nat) : Int)) rfl hc]; exact ⟨a, b, c, d⟩
  · rw [← hl] at h0 ⊢
    by_cases c : k < 2
    · have e1 : k = 1 := by omega
      subst e1
      rw [base_h hy (by decide)] at h0 ⊢
      by_cases hc : (cutS y [32]).1 = startW ∧ (readP g.rules (cutS y [32]).2.1).2 = true
      · rw [headI_1y (at_ := ((1 : Nat) : Int)) (by decide) hc.1 hc.2]; exact fresh_ok (readP_ok hc.2).1
      · rw [headI_1n (at_ := ((1 : Nat) : Int)) (by decide) hc] at h0; exact absurd h0 (show ¬ (2 : Int) = 0 by decide)
    · rw [base_l hy c] at h0 ⊢
      exact lineI_ok (h.g (by omega)) h0
theorem RecI.bad {s : List UInt8} {k : Nat} {g : Gam} {x : Gam × Int} (h : RecI s k g) (hk : k < max (recL s).length 2) (hx : flt (recL s) (whole s) g k = x) (h0 : ¬ x.2 = 0) : chkW s = (Gam.zero, (k : Int), x.2) := by
  subst hx
  have := h.h
  rw [show max (recL s).length 2 - k = (max (recL s).length 2 - (k + 1)) + 1 by omega, goN, if_neg h0] at this
  exact this.symm
theorem RecI.done {s : List UInt8} {k : Nat} {g : Gam} (h : RecI s k g) (hk : max (recL s).length 2 ≤ k) : chkW s = (g, -1, 0) := by
  have := h.h
  rw [show max (recL s).length 2 - k = 0 by omega, goN] at this
  exact this.symm
def recS (s : List UInt8) : List (List UInt8) := if whole s = true ∧ ¬ (split 10 s).length = 1 then split 10 s else split 10 s ++ [[]]
theorem recS_y {s : List UInt8} (h : whole s = true) (h2 : ¬ (split 10 s).length = 1) : recS s = split 10 s := if_pos ⟨h, h2⟩
theorem recS_n {s : List UInt8} (h : ¬ (whole s = true ∧ ¬ (split 10 s).length = 1)) : recS s = split 10 s ++ [[]] := if_neg h
theorem whole_last {s y : List UInt8} (h : (split 10 s)[(split 10 s).length - 1]? = some y) : whole s = decide (y = []) := by
  unfold whole; rw [List.getLast?_eq_getElem?, h]; simp
theorem split_drop {s : List UInt8} (h : whole s = true) : split 10 s = (split 10 s).dropLast ++ [[]] := by
  unfold whole at h
  have h := of_decide_eq_true h
  obtain ⟨l, hl⟩ := List.getLast?_eq_some_iff.1 h
  rw [hl]; simp
theorem split_nil_of {s : List UInt8} (h : whole s = true) (h1 : (split 10 s).length = 1) : s = [] := by
  have := split_drop h
  have hd : (split 10 s).dropLast = [] := List.length_eq_zero_iff.1 (by rw [List.length_dropLast]; omega)
  rw [hd] at this
  have hj := joinW_split (b := 10) (s := s)
  rw [this] at hj; simpa [joinW] using hj.symm
theorem recS_eq {s : List UInt8} (h : s ≠ []) : recS s = recL s ++ [[]] ∧ 1 ≤ (recL s).length := by
  have hp : 0 < (split 10 s).length := List.length_pos_iff.2 (split_ne 10 s)
  cases hw : whole s with
  | true =>
    have h1 : ¬ (split 10 s).length = 1 := fun e => h (split_nil_of hw e)
    unfold recL
    rw [recS_y hw h1, if_pos hw]
    exact ⟨split_drop hw, by rw [List.length_dropLast]; omega⟩
  | false =>
    unfold recL
    rw [recS_n (by rw [hw]; rintro ⟨h9, _⟩; exact absurd h9 (by decide)), hw, if_neg (by decide)]
    exact ⟨rfl, hp⟩
theorem recS_two (s : List UInt8) : 2 ≤ (recS s).length := by
  by_cases h : s = []
  · subst h; decide
  · obtain ⟨a, b⟩ := recS_eq h
    rw [a, List.length_append]; simp; omega
theorem recS_mem {s w : List UInt8} (h : w ∈ recS s) : w.length ≤ s.length := by
  unfold recS at h; split at h
  · exact split_mem 10 s w h
  · rcases List.mem_append.1 h with h | h
    · exact split_mem 10 s w h
    · simp at h; subst h; exact Nat.zero_le _
structure SpI (s : List UInt8) (k : Nat) (g : Gam) : Prop where
  l : recS s = recL s ++ [[]]
  ok : okG g = true
  k2 : 2 ≤ k
  kn : k ≤ (recL s).length
  go : k < (recL s).length ∨ whole s = true → RecI s k g
  en : k = (recL s).length → whole s = false → chkW s = (Gam.zero, (k : Int) - 1, 7)
theorem SpI.get {s y : List UInt8} {k : Nat} {g : Gam} (h : SpI s k g) (hk : k < (recL s).length) (hy : (recS s)[k]? = some y) : (recL s)[k]? = some y := by
  rw [h.l, List.getElem?_append_left hk] at hy; exact hy
theorem SpI.bad {s y : List UInt8} {k : Nat} {g : Gam} {x : Gam × Int} (h : SpI s k g) (hk : k < (recL s).length) (hy : (recS s)[k]? = some y) (hx : lineI g y = x) (h0 : ¬ x.2 = 0) : chkW s = (Gam.zero, (k : Int), x.2) := by
  have hb := base_l (g := g) (h.get hk hy) (by have := h.k2; omega)
  rw [hx] at hb
  exact (h.go (.inl hk)).bad (by omega) (flt_b hb (fun c => h0 c.1)) h0
theorem SpI.step {s y : List UInt8} {k : Nat} {g : Gam} {x : Gam × Int} (h : SpI s k g) (hk : k < (recL s).length) (hy : (recS s)[k]? = some y) (hx : lineI g y = x) (h0 : x.2 = 0) : SpI s (k + 1) x.1 := by
  have hb := base_l (g := g) (h.get hk hy) (by have := h.k2; omega)
  rw [hx] at hb
  have hg : okG x.1 = true := by rw [← hx]; exact lineI_ok h.ok (by rw [hx]; exact h0)
  have hk2 := h.k2
  by_cases c : k + 1 = (recL s).length ∧ whole s = false
  · refine ⟨h.l, hg, by omega, by omega, fun h9 => ?_, fun _ _ => ?_⟩
    · rcases h9 with h9 | h9
      · exact absurd c.1 (by omega)
      · rw [c.2] at h9; exact absurd h9 (by decide)
    · have := (h.go (.inl hk)).bad (by omega) (flt_7 hb ⟨h0, c⟩) (show ¬ (7 : Int) = 0 by decide)
      rw [this]; congr 2; omega
  · refine ⟨h.l, hg, by omega, by omega, fun _ => ?_, fun h1 h2 => absurd ⟨h1, h2⟩ c⟩
    exact (h.go (.inl hk)).step (by omega) (flt_b hb (fun d => c d.2)) h0
theorem SpI.done {s : List UInt8} {k : Nat} {g : Gam} (h : SpI s k g) (hk : (recL s).length ≤ k) (hw : whole s = true) : chkW s = (g, -1, 0) := by
  have := h.k2
  exact (h.go (.inr hw)).done (by omega)
theorem SpI.end_ {s : List UInt8} {k : Nat} {g : Gam} (h : SpI s k g) (hk : (recL s).length ≤ k) (hw : whole s = false) : chkW s = (Gam.zero, (k : Int) - 1, 7) := h.en (by have := h.kn; omega) hw
theorem aft_nil (w : List UInt8) : aft [] w = ([], false) := aft_n (fun h => h.1 (by simp))
theorem head_law2 {s l1 : List UInt8} {r0 : Rul} (hl : recS s = recL s ++ [[]]) (h1 : (recS s)[1]? = some l1) (hn : 1 ≤ (recL s).length) (R1 : RecI s 1 ⟨r0, Gam.zero.start, Gam.zero.moves, Gam.zero.now, Gam.zero.resigned⟩) (ct : ¬ ((recL s).length = 1 ∧ whole s = false)) :
    (¬ ((aft l1 startW).2 = true ∧ (readP r0 (aft l1 startW).1).2 = true) → chkW s = (Gam.zero, 1, 2)) ∧ ((aft l1 startW).2 = true ∧ (readP r0 (aft l1 startW).1).2 = true → SpI s 2 (freshG r0 (readP r0 (aft l1 startW).1).1)) := by
  obtain ⟨g1, hg1⟩ : ∃ g : Gam, g = ⟨r0, Gam.zero.start, Gam.zero.moves, Gam.zero.now, Gam.zero.resigned⟩ := ⟨_, rfl⟩
  have hr : g1.rules = r0 := by rw [hg1]
  rw [← hg1] at R1
  rw [← hr]
  clear hg1 hr
  obtain ⟨v1_, v2_⟩ := word_law (t := l1) (w := startW) (readP g1.rules) (by decide) (readP_nil _)
  have n2 : ¬ (2 : Int) = 0 := by decide
  have n7 : ¬ (7 : Int) = 0 := by decide
  by_cases c2 : (recL s).length = 1
  · have e1 : l1 = [] := by rw [hl, List.getElem?_append_right (by omega), c2] at h1; simpa using h1.symm
    have b1 : base (recL s) g1 1 = (g1, 2) := by rw [base_no (by omega)]; rfl
    rw [e1, aft_nil]
    exact ⟨fun _ => R1.bad (by omega) (flt_b b1 (fun d => n2 d.1)) n2, fun h => absurd h.1 (by decide)⟩
  · have g2 : (recL s)[1]? = some l1 := by rw [hl, List.getElem?_append_left (by omega)] at h1; exact h1
    have b1 := base_h (g := g1) g2 (by decide)
    refine ⟨fun c1 => ?_, fun c1 => ?_⟩
    · rw [headI_1n (g := g1) (at_ := ((1 : Nat) : Int)) (by decide) (fun d => c1 (v1_.1 d))] at b1
      exact R1.bad (by omega) (flt_b b1 (fun d => n2 d.1)) n2
    · have d1 := v1_.2 c1
      have e1 := v2_ c1.1
      rw [headI_1y (g := g1) (at_ := ((1 : Nat) : Int)) (by decide) d1.1 d1.2, e1] at b1
      have hf : okG (freshG g1.rules (readP g1.rules (aft l1 startW).1).1) = true := fresh_ok (readP_ok c1.2).1
      by_cases c3 : (recL s).length = 2 ∧ whole s = false
      · refine ⟨hl, hf, Nat.le_refl _, by omega, fun h9 => ?_, fun _ _ => ?_⟩
        · rcases h9 with h9 | h9
          · omega
          · rw [c3.2] at h9; exact absurd h9 (by decide)
        · exact R1.bad (by omega) (flt_7 b1 ⟨rfl, by rw [c3.1], c3.2⟩) n7
      · refine ⟨hl, hf, Nat.le_refl _, by omega, fun _ => ?_, fun h1 h2 => absurd ⟨h1.symm, h2⟩ c3⟩
        exact R1.step (by omega) (flt_b b1 (fun d => c3 ⟨by have := d.2.1; omega, d.2.2⟩)) rfl
theorem head_law {s l0 l1 : List UInt8} {x : Gam × Int × Int} (h0 : (recS s)[0]? = some l0) (h1 : (recS s)[1]? = some l1) (hx : headS l0 l1 (decide ((recS s).length = 2) && !whole s) = x) :
    (¬ x.2.2 = 0 → chkW s = (Gam.zero, x.2.1, x.2.2)) ∧ (x.2.2 = 0 → SpI s 2 x.1) := by
  have n1 : ¬ (1 : Int) = 0 := by decide
  have n2 : ¬ (2 : Int) = 0 := by decide
  have n7 : ¬ (7 : Int) = 0 := by decide
  by_cases hs : s = []
  · subst hs
    have e0 : l0 = [] := by
      have : recS [] = [[], []] := by decide
      rw [this] at h0; simpa using h0.symm
    subst e0
    rw [headS_1 (by rw [aft_nil]; rintro ⟨h9, _⟩; exact absurd h9 (by decide))] at hx
    subst hx
    exact ⟨fun _ => by decide +kernel, fun h9 => absurd h9 n1⟩
  · obtain ⟨hl, hn⟩ := recS_eq hs
    have hlen : (recS s).length = (recL s).length + 1 := by rw [hl]; simp
    have g0 : (recL s)[0]? = some l0 := by rw [hl, List.getElem?_append_left (by omega)] at h0; exact h0
    have R0 := RecI.zero s
    have b0 := base_h (g := Gam.zero) g0 (by decide)
    obtain ⟨w1_, w2_⟩ := word_law (t := l0) (w := rulesW) readR (by decide) readR_nil
    by_cases c0 : (aft l0 rulesW).2 = true ∧ (readR (aft l0 rulesW).1).2 = true
    · have d0 := w1_.2 c0
      have e0 := w2_ c0.1
      rw [headI_0y (g := Gam.zero) (at_ := ((0 : Nat) : Int)) rfl d0.1 d0.2, e0] at b0
      by_cases ct : (recL s).length = 1 ∧ whole s = false
      · rw [headS_7 c0 (by rw [hlen, ct.1, ct.2]; rfl)] at hx
        subst hx
        exact ⟨fun _ => R0.bad (by omega) (flt_7 b0 ⟨rfl, by rw [ct.1], ct.2⟩) n7, fun h9 => absurd h9 n7⟩
      · have htw : ¬ (decide ((recS s).length = 2) && !whole s) = true := by
          simp only [Bool.and_eq_true, decide_eq_true_eq, Bool.not_eq_true']
          rintro ⟨a, b⟩; exact ct ⟨by omega, b⟩
        have R1 := R0.step (by omega) (flt_b b0 (fun d => ct ⟨by have := d.2.1; omega, d.2.2⟩)) rfl
        obtain ⟨q1_, q2_⟩ := head_law2 (r0 := (readR (aft l0 rulesW).1).1) hl h1 hn R1 ct
        by_cases c1 : (aft l1 startW).2 = true ∧ (readP (readR (aft l0 rulesW).1).1 (aft l1 startW).1).2 = true
        · rw [headS_0 c0 htw c1] at hx
          subst hx
          exact ⟨fun h9 => absurd rfl h9, fun _ => q2_ c1⟩
        · rw [headS_2 c0 htw c1] at hx
          subst hx
          exact ⟨fun _ => q1_ c1, fun h9 => absurd h9 n2⟩
    · rw [headI_0n (g := Gam.zero) (at_ := ((0 : Nat) : Int)) rfl (fun d => c0 (w1_.1 d))] at b0
      rw [headS_1 c0] at hx
      subst hx
      exact ⟨fun _ => R0.bad (by omega) (flt_b b0 (fun d => n1 d.1)) n1, fun h9 => absurd h9 n1⟩
theorem okG_bd {g : Gam} (hg : okG g = true) : g.start.pits.length ≤ 100 ∧ g.start.stores.length ≤ 100 ∧ g.now.pits.length ≤ 100 ∧ g.now.stores.length ≤ 100 ∧ g.moves.length ≤ 120 := by
  obtain ⟨p1, p2, _⟩ := okG_parts hg
  obtain ⟨a1, a2, a3, a4, _⟩ := okP_bd p1
  obtain ⟨b1, b2, b3, b4, _⟩ := okP_bd (okG_now hg)
  refine ⟨?_, ?_, ?_, ?_, p2⟩ <;> omega
theorem readP_bd (r : Rul) (s : List UInt8) : (readP r s).1.pits.length ≤ 100 ∧ (readP r s).1.stores.length ≤ 100 := by
  cases h : (readP r s).2 with
  | true =>
    obtain ⟨a1, a2, a3, a4, _⟩ := okP_bd (readP_ok h).1
    constructor <;> omega
  | false => rw [readP_zero h]; exact ⟨Nat.zero_le _, Nat.zero_le _⟩
def ln (l : List (List UInt8)) (k : Nat) : List UInt8 := l.getD k []
theorem ln_get {l : List (List UInt8)} {k : Nat} {y : List UInt8} (h : l[k]? = some y) : ln l k = y := by unfold ln; rw [List.getD_eq_getElem?_getD, h]; rfl
theorem numR_n {t : List UInt8} (h : ¬ fmS t) : numR t = ((0, 0, 0), false) := if_neg h
theorem numR_y {t a b c d : List UInt8} (h2 : (split 32 t).length = 2) (h0 : (split 32 t)[0]? = some a) (h1 : (split 32 t)[1]? = some b) (hl : 2 ≤ a.length) (hd : a[a.length - 1]? = some 46) (v2 : (split 43 b).length = 2) (hv0 : (split 43 b)[0]? = some c) (hv1 : (split 43 b)[1]? = some d) :
    numR t = (((num (a.take (a.length - 1))).1, (num c).1, (num d).1), (num (a.take (a.length - 1))).2 && (num c).2 && (num d).2) := by
  have e0 : w0 t = a := by unfold w0; rw [List.getD_eq_getElem?_getD, h0]; rfl
  have e1 : w1 t = b := by unfold w1; rw [List.getD_eq_getElem?_getD, h1]; rfl
  have e2 : v0 t = c := by unfold v0; rw [e1, List.getD_eq_getElem?_getD, hv0]; rfl
  have e3 : v1 t = d := by unfold v1; rw [e1, List.getD_eq_getElem?_getD, hv1]; rfl
  have hf : fmS t := ⟨h2, by rw [e0]; exact hl, by rw [e0]; exact hd, by rw [e1]; exact v2⟩
  unfold numR; rw [if_pos hf, e0, e2, e3]
theorem fmS_0 {t a : List UInt8} (h0 : (split 32 t)[0]? = some a) (hf : fmS t) : 2 ≤ a.length ∧ a[a.length - 1]? = some 46 := by
  have e0 : w0 t = a := by unfold w0; rw [List.getD_eq_getElem?_getD, h0]; rfl
  obtain ⟨_, b, c, _⟩ := hf
  rw [e0] at b c; exact ⟨b, c⟩
theorem fmS_1 {t b : List UInt8} (h1 : (split 32 t)[1]? = some b) (hf : fmS t) : (split 43 b).length = 2 := by
  have e1 : w1 t = b := by unfold w1; rw [List.getD_eq_getElem?_getD, h1]; rfl
  obtain ⟨_, _, _, d⟩ := hf
  rw [e1] at d; exact d
theorem bat_46 {a : List UInt8} {k : Nat} (hk : k < a.length) : bat a k = 46 ↔ a[k]? = some 46 := by
  rw [bat_get hk, List.getElem?_eq_getElem hk]
  constructor
  · intro h
    have h2 : a[k].toNat = 46 := by omega
    rw [show a[k] = 46 from UInt8.toNat_inj.1 h2]
  · intro h; rw [Option.some.inj h]; rfl
def resW : List UInt8 := [114, 101, 115, 105, 103, 110, 115]
theorem res_line {g : Gam} {y : List UInt8} (hr : ¬ 0 ≤ g.resigned) (h : (aft y resW).2 = true) (ht : (aft y resW).1 = [48] ∨ (aft y resW).1 = [49]) : lineI g y = (resG g (num (aft y resW).1).1, 0) := by
  have he := aft_eq h
  rcases ht with e | e
  · rw [e] at he ⊢; rw [lineI_r0 hr he, show num [48] = (0, true) by decide +kernel]
  · rw [e] at he ⊢; rw [lineI_r1 hr he, show num [49] = (1, true) by decide +kernel]
theorem res_not {y : List UInt8} (h : ¬ ((aft y resW).2 = true ∧ ((aft y resW).1 = [48] ∨ (aft y resW).1 = [49]))) : ¬ y = res0 ∧ ¬ y = res1 := by
  constructor
  · rintro rfl; exact h ⟨by decide, .inl (by decide)⟩
  · rintro rfl; exact h ⟨by decide, .inr (by decide)⟩
def atS (s : List UInt8) : Int := if (chkW s).2.2 = 0 then 0 else (chkW s).2.1
theorem atS_b {s : List UInt8} {a f : Int} (h : chkW s = (Gam.zero, a, f)) (hf : ¬ f = 0) : atS s = a := by unfold atS; rw [h]; exact if_neg hf
theorem atS_0 {s : List UInt8} {g : Gam} (h : chkW s = (g, -1, 0)) : atS s = 0 := by unfold atS; rw [h]; rfl
def readG (s : List UInt8) : Gam × Bool := if 4000 < s.length then (Gam.zero, false) else if (chkW s).2.2 = 0 then ((chkW s).1, true) else (Gam.zero, false)
theorem readG_5 {s : List UInt8} (h : 4000 < s.length) : readG s = (Gam.zero, false) := if_pos h
theorem readG_y {s : List UInt8} (h : ¬ 4000 < s.length) (h2 : (chkW s).2.2 = 0) : readG s = ((chkW s).1, true) := by unfold readG; rw [if_neg h, if_pos h2]
theorem readG_n {s : List UInt8} (h : ¬ 4000 < s.length) (h2 : ¬ (chkW s).2.2 = 0) : readG s = (Gam.zero, false) := by unfold readG; rw [if_neg h, if_neg h2]
theorem chk_okG {s : List UInt8} : ∀ (n k : Nat) (g : Gam), RecI s k g → max (recL s).length 2 - k = n → k ≤ max (recL s).length 2 → (chkW s).2.2 = 0 → okG (chkW s).1 = true
  | 0, k, g, h, hn, hk, h0 => by
    rw [h.done (by omega)]
    exact h.g (by omega)
  | n + 1, k, g, h, hn, hk, h0 => by
    by_cases hx : (flt (recL s) (whole s) g k).2 = 0
    · exact chk_okG n (k + 1) _ (h.step (by omega) rfl hx) (by omega) (by omega) h0
    · rw [h.bad (by omega) rfl hx] at h0; exact absurd h0 hx
theorem chkW_ok {s : List UInt8} (h : (chkW s).2.2 = 0) : okG (chkW s).1 = true := chk_okG _ 0 Gam.zero (RecI.zero s) rfl (Nat.zero_le _) h
theorem readG_ok {s : List UInt8} (h : (readG s).2 = true) : okG (readG s).1 = true := by
  by_cases h1 : 4000 < s.length
  · rw [readG_5 h1] at h; exact absurd h (by decide)
  · by_cases h2 : (chkW s).2.2 = 0
    · rw [readG_y h1 h2]; exact chkW_ok h2
    · rw [readG_n h1 h2] at h; exact absurd h (by decide)
theorem readG_no {s : List UInt8} (h : (readG s).2 = false) : (readG s).1 = Gam.zero := by
  by_cases h1 : 4000 < s.length
  · rw [readG_5 h1]
  · by_cases h2 : (chkW s).2.2 = 0
    · rw [readG_y h1 h2] at h; exact absurd h (show ¬ true = false by decide)
    · rw [readG_n h1 h2]
theorem readG_small (s : List UInt8) : (readG s).1.start.pits.length ≤ 100 ∧ (readG s).1.start.stores.length ≤ 100 ∧ (readG s).1.moves.length ≤ 120 ∧ (readG s).1.now.pits.length ≤ 100 ∧ (readG s).1.now.stores.length ≤ 100 := by
  cases h : (readG s).2 with
  | true => obtain ⟨a, b, c, d, e⟩ := okG_bd (readG_ok h); exact ⟨a, b, e, c, d⟩
  | false => rw [readG_no h]; exact ⟨Nat.zero_le _, Nat.zero_le _, Nat.zero_le _, Nat.zero_le _, Nat.zero_le _⟩
end Go.Proofs.YtjgohnaobbphpaaGreatDoor.M

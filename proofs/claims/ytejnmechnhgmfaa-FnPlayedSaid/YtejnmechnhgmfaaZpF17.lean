/- Short rules: what a function hands back. -/
import Derived.Test.YtejnmechnhgmfaaZpF16
set_option linter.unusedSimpArgs false
set_option linter.unusedVariables false
namespace Go.Proofs.Ytejnmechnhgmfaa
open Go.RowKit
section
variable {P : Program} {n lo : Nat} {B : List Nat} {Q : Exit → Act → World → Prop} {cs : List Code} {l : Fr} {os os' os1 : List Own} {u w : World} {v : Value} {T : Ty} {Ts : List Ty}
inductive RetQ (P : Program) (fn : Func) (R : Ending → World → Prop) : (Exit → Act → World → Prop) → Prop
  | base : RetQ P fn R (bodyPost P fn R)
  | bq {i : Nat} {K : Act → World → Prop} {Q : Exit → Act → World → Prop} (h : RetQ P fn R Q) : RetQ P fn R (BQ i K Q)
  | lq {n lo : Nat} {B : List Nat} {I : Fr → List Own → World → Nat → Prop} {m : Nat} {Q : Exit → Act → World → Prop} (h : RetQ P fn R Q) : RetQ P fn R (LQ n lo B I m Q)
  | cq {n lo : Nat} {B : List Nat} {I : Fr → List Own → World → Prop} {Q : Exit → Act → World → Prop} (h : RetQ P fn R Q) : RetQ P fn R (CQ n lo B I Q)
theorem RetQ.eq {fn : Func} {R : Ending → World → Prop} (h : RetQ P fn R Q) : ∀ a w, Q .ret a w = bodyPost P fn R .ret a w := by
  induction h with
  | base => exact fun _ _ => rfl
  | bq _ ih => exact ih
  | lq _ ih => exact ih
  | cq _ ih => exact ih
theorem rq_ {fn : Func} {R : Ending → World → Prop} (h : RetQ P fn R Q := by repeat (first | with_reducible exact RetQ.base | with_reducible apply RetQ.bq | with_reducible apply RetQ.lq | with_reducible apply RetQ.cq)) : RetQ P fn R Q := h
inductive OutV : List Value → Value → Prop
  | one {v : Value} : OutV [v] v
  | two {v v' : Value} {r : List Value} : OutV (v :: v' :: r) (.tuple (v :: v' :: r).toArray)
theorem OutV.eq {vs : List Value} {v : Value} (h : OutV vs v) : outV vs = v := by cases h <;> rfl
theorem ov_ {vs : List Value} {v : Value} (h : OutV vs v := by first | exact OutV.one | exact OutV.two) : OutV vs v := h
theorem ro1 {t : Tmp} {T : TypeId} {r : List ResultVar} {s b : Nat} {v : Value} {vs : List Value} [ht : TyI P T false s] (hl : look l t = some (.pointer (some ⟨b, 0, none⟩))) (h : Ld os b 0 v) (k : ResOk P n lo B l os u r vs) : ResOk P n lo B l os u (.cell t T :: r) (v :: vs) :=
  ResOk.cell ⟨b, 0, hl, fun w hw => run_loadVar_one w ht.h (h.get hw.prs)⟩ k
theorem ro2 {t : Tmp} {T : TypeId} {r : List ResultVar} {s b : Nat} {vs us : List Value} [ht : TyI P T true s] (hl : look l t = some (.pointer (some ⟨b, 0, none⟩))) (h : LdR os b 0 s us) (hs : us.length = s) (k : ResOk P n lo B l os u r vs) : ResOk P n lo B l os u (.cell t T :: r) (.agg us.toArray :: vs) :=
  ResOk.cell ⟨b, 0, hl, fun w hw => run_loadVar_agg w (hs ▸ ht.h) (h.get hw.prs)⟩ k
theorem rs_ {rs : List ResultVar} {vs : List Value} (h : ResOk P n lo B l os u rs vs := by repeat (first | exact ResOk.nil | (apply ResOk.tmp; rfl) | (apply ro1; rfl; exact ld_) | (apply ro2; rfl; exact ldr_; rfl))) : ResOk P n lo B l os u rs vs := h
theorem zR {fn : Func} {v : Value} {w₀ : World} {rs : List ResultVar} {vs : List Value} (x : Up w₀.heap.size w₀ u) (e : Ending.returned (outV vs) = .returned v) (hq : RetQ P fn (RV w₀ v) Q := by exact rq_) (hr : fn.results = rs.toArray := by rfl) (hv : ResOk P n w₀.heap.size [] l os u rs vs := by exact rs_) : Js P n w₀.heap.size [] Q (.ret :: cs) l os u :=
  Js.ret hr hq.eq hv fun w hw => ⟨e, hw.ext x⟩
theorem zr {fn : Func} {v v' : Value} {w₀ : World} {rs : List ResultVar} {vs : List Value} (x : Up w₀.heap.size w₀ u) (hq : RetQ P fn (RV w₀ v) Q := by exact rq_) (hr : fn.results = rs.toArray := by rfl) (hv : ResOk P n w₀.heap.size [] l os u rs vs := by exact rs_) (ho : OutV vs v' := by exact ov_) (e : v' = v := by first | with_reducible rfl | assumption | rfl | (simp; done)) : Js P n w₀.heap.size [] Q (.ret :: cs) l os u :=
  zR x (by rw [ho.eq, e]) hq hr hv
inductive PickO : List Own → Own → List Own → Prop
  | z {o : Own} {r : List Own} : PickO (o :: r) o r
  | s {o q : Own} {r s : List Own} (h : PickO r o s) : PickO (q :: r) o (q :: s)
theorem PickO.perm {os r : List Own} {o : Own} (h : PickO os o r) : os.Perm (o :: r) := by
  induction h with
  | z => exact List.Perm.refl _
  | s _ ih => exact (ih.cons _).trans (List.Perm.swap _ _ _)
def Gv (os : List Own) (T : Ty) (v : Value) (os' : List Own) : Prop := ∀ w, (∀ o ∈ os, o.pr w) → ∃ fp g, T.own w v fp ∧ (fp ++ (g ++ os'.flatMap (·.fp))).Perm (os.flatMap (·.fp)) ∧ ∀ o ∈ os', o.pr w
def GvL (os : List Own) (Ts : List Ty) (vs : List Value) (os' : List Own) : Prop := ∀ w, (∀ o ∈ os, o.pr w) → ∃ fp g, cellsOwn w Ts vs fp ∧ (fp ++ (g ++ os'.flatMap (·.fp))).Perm (os.flatMap (·.fp)) ∧ ∀ o ∈ os', o.pr w
theorem PickO.flat {o : Own} (h : PickO os o os') : (o.fp ++ os'.flatMap (·.fp)).Perm (os.flatMap (·.fp)) := by
  have := h.perm.symm.flatMap_right (fun o : Own => o.fp)
  simpa using this
theorem PickO.at {o : Own} (h : PickO os o os') {w : World} (hp : ∀ o ∈ os, o.pr w) : o.pr w ∧ ∀ o ∈ os', o.pr w := ⟨hp o (h.perm.mem_iff.2 (by simp)), fun q hq => hp q (h.perm.mem_iff.2 (by simp [hq]))⟩
theorem gv_of {o : Own} (h : PickO os o os') (k : ∀ w, o.pr w → ∃ fp g, T.own w v fp ∧ o.fp = fp ++ g) : Gv os T v os' := fun w hp => by
  obtain ⟨h1, h2⟩ := h.at hp
  obtain ⟨fp, g, a, b⟩ := k w h1
  exact ⟨fp, g, a, by rw [← List.append_assoc, ← b]; exact h.flat, h2⟩
theorem gv_free (h : ∀ w, T.own w v []) : Gv os T v os := fun w hp => ⟨[], [], h w, List.Perm.refl _, hp⟩
theorem gv_val {x : Value} : Gv os (Ty.val x) x os := gv_free fun _ => ⟨rfl, rfl⟩
theorem gv_int {a b : Int} (h : a = b) : Gv os (Ty.int b) (.int .i64 a) os := gv_free fun _ => ⟨by rw [h], rfl⟩
theorem gv_bool {a b : Bool} (h : a = b) : Gv os (Ty.bool b) (.bool a) os := gv_free fun _ => ⟨by rw [h], rfl⟩
theorem gv_str {a b : ByteArray} (h : a = b) : Gv os (Ty.str b) (.string a) os := gv_free fun _ => ⟨by rw [h], rfl⟩
theorem gv_any (h : v.oneCell' = true) : Gv os Ty.any v os := gv_free fun _ => ⟨rfl, h⟩
theorem gv_ints {e : TypeId} {m : Nat} {xs ys : List Int} {g : List Nat} (h : PickO os (rowO e 1 v m (ints_ xs) g) os') (hx : xs = ys) : Gv os (Ty.ints e ys) v os' :=
  gv_of h fun w hr => ⟨_, g, ints_row hr hx, by simp [rowO]⟩
theorem gv_intsL {e : TypeId} {m : Nat} {vs : List Value} {ys : List Int} {g : List Nat} (h : PickO os (rowO e 1 v m vs g) os') (hx : vs = ints_ ys) : Gv os (Ty.ints e ys) v os' := gv_ints (hx ▸ h) rfl
theorem gv_intsM {e : TypeId} {m : Nat} {vs : List Value} {xs ys : List Int} {g : List Nat} (h : PickO os (rowO e 1 v m vs g) os') (he : xs = ys) (hx : vs = ints_ xs) : Gv os (Ty.ints e ys) v os' := gv_ints (hx ▸ h) he
theorem gv_nil {e : TypeId} {ys : List Int} (hx : [] = ys) : Gv os (Ty.ints e ys) (.slice none 0 0) os := gv_free fun _ => hx ▸ nil_own
theorem gv_ro {e : TypeId} {m : Nat} {xs ys : List Int} (h : PickO os (roO e v m (ints_ xs)) os') (hx : xs = ys) : Gv os (Ty.ro e ys) v os' :=
  gv_of h fun w hr => ⟨_, [], ro_own hr hx, by simp [roO]⟩
theorem gv_roR {e : TypeId} {m : Nat} {xs ys : List Int} {g : List Nat} (h : PickO os (rowO e 1 v m (ints_ xs) g) os') (hx : xs = ys) : Gv os (Ty.ro e ys) v os' :=
  gv_of h fun w hr => ⟨_, g, ro_ownR hr hx, by simp [rowO]⟩
theorem gv_roN {e : TypeId} {ys : List Int} (hx : [] = ys) : Gv os (Ty.ro e ys) (.slice none 0 0) os := gv_free fun _ => ro_nil hx
theorem gv_own {vs : List Value} {f : List Nat} (h : PickO os (ownC Ts vs f) os') : Gv os (Ty.agg Ts) (.agg vs.toArray) os' := gv_of h fun w hr => ⟨f, [], ⟨_, rfl, hr⟩, by simp [ownC]⟩
theorem gv_ownc {α : Type} (F : α → List Ty) {x y : α} {vs : List Value} {f : List Nat} (h : PickO os (ownC (F x) vs f) os') (hx : x = y) : Gv os (Ty.agg (F y)) (.agg vs.toArray) os' := hx ▸ gv_own h
theorem gv_strs {e : TypeId} {A : Option Addr} {m c : Nat} {vs : List Value} {g : List Nat} {Ts : List Ty} (h : PickO os (rowO e 1 (.slice A m c) m vs g) os') (hc : ∀ {w : World}, cellsOwn w Ts vs []) : Gv os (Ty.sl e 1 m Ts) (.slice A m c) os' :=
  gv_of h fun w hr => ⟨_, g, row_own hr hc, by simp [rowO]⟩
theorem gv_agg {vs : List Value} (h : GvL os Ts vs os') : Gv os (Ty.agg Ts) (.agg vs.toArray) os' := fun w hp => by
  obtain ⟨fp, g, a, b⟩ := h w hp; exact ⟨fp, g, ⟨_, rfl, a⟩, b⟩
theorem gv_tup {vs : List Value} (h : GvL os Ts vs os') : Gv os (Ty.tup Ts) (.tuple vs.toArray) os' := fun w hp => by
  obtain ⟨fp, g, a, b⟩ := h w hp; exact ⟨fp, g, ⟨_, rfl, a⟩, b⟩
theorem gv_box {t : TypeId} {b : Nat} {vs : List Value} (h : PickO os (boxO b vs t) os1) (k : GvL os1 Ts vs os') : Gv os (Ty.box t Ts) (.pointer (some ⟨b, 0, none⟩)) os' := fun w hp => by
  obtain ⟨h1, h2⟩ := h.at hp
  obtain ⟨fp, g, a, c, d⟩ := k w h2
  refine ⟨b :: fp, g, box_own h1 a, ?_, d⟩
  have := h.flat
  exact (c.cons b).trans (by simpa [boxO] using this)
class LenL {α : Type} (F : List α → List Ty) (k : outParam Nat) : Prop where h : ∀ xs, (F xs).length = xs.length * k
theorem gv_sl {α : Type} (F : List α → List Ty) {e : TypeId} {sz m : Nat} {v : Value} {vs : List Value} {xs ys : List α} {f g : List Nat} (h : PickO os (rowO e sz v m vs g) os1) (k : PickO os1 (ownC (F xs) vs f) os') (hx : xs = ys) [hl : LenL F sz] (hsz : 0 < sz := by decide) : Gv os (Ty.sl e sz ys.length (F ys)) v os' := fun w hp => by
  obtain ⟨h1, h2⟩ := h.at hp
  obtain ⟨h3, h4⟩ := k.at h2
  refine ⟨v.ownBlock.toList ++ f, g, srow_own F h1 h3 (hl.h _) hx hsz, ?_, h4⟩
  have a := h.flat
  have b := k.flat
  simp only [rowO, ownC] at a b
  refine List.Perm.trans ?_ a
  rw [List.append_assoc, List.append_assoc]
  refine List.Perm.append_left _ ?_
  refine List.Perm.trans ?_ (List.Perm.append_left g b)
  rw [← List.append_assoc, ← List.append_assoc]
  exact List.Perm.append_right _ List.perm_append_comm
theorem gv_sn {α : Type} (F : List α → List Ty) {e : TypeId} {sz : Nat} {xs : List α} (h : [] = xs) (hF : F [] = [] := by rfl) : Gv os (Ty.sl e sz xs.length (F xs)) (.slice none 0 0) os := gv_free fun _ => snil_own F h hF
theorem gv_yes {c : Bool} (hc : c = true) (h : Gv os T v os') : Gv os (Ty.opt c T) v os' := fun w hp => by
  obtain ⟨fp, g, a, b⟩ := h w hp; exact ⟨fp, g, opt_own a hc, b⟩
theorem gv_no {c : Bool} (hc : c = false) : Gv os (Ty.opt c T) (.pointer none) os := gv_free fun _ => opt_nil hc
theorem gv_ex {α : Type} {p : α → Prop} {F : α → Ty} (x : α) (hp : p x) (h : Gv os (F x) v os') : Gv os (Ty.ex p F) v os' := fun w hw => by
  obtain ⟨fp, g, a, b⟩ := h w hw; exact ⟨fp, g, ⟨x, hp, a⟩, b⟩
theorem gvn : GvL os [] [] os := fun w hp => ⟨[], [], rfl, List.Perm.refl _, hp⟩
theorem gvc {vs : List Value} (h : Gv os T v os1) (k : GvL os1 Ts vs os') : GvL os (T :: Ts) (v :: vs) os' := fun w hp => by
  obtain ⟨f1, g1, a1, b1, c1⟩ := h w hp
  obtain ⟨f2, g2, a2, b2, c2⟩ := k w c1
  refine ⟨f1 ++ f2, g1 ++ g2, ⟨f1, f2, rfl, a1, a2⟩, List.Perm.trans ?_ b1, c2⟩
  rw [List.append_assoc]
  refine List.Perm.append_left _ ?_
  refine List.Perm.trans ?_ (List.Perm.append_left g1 b2)
  rw [List.append_assoc g1 g2]
  exact List.perm_append_comm_assoc _ _ _
theorem gv_ (h : Gv os T v os' := by repeat' (first
    | with_reducible exact gvn
    | with_reducible apply gvc
    | with_reducible exact gv_val
    | ((with_reducible apply gv_int); (first | with_reducible rfl | assumption | (symm; assumption) | rfl | omega | (simp; done)))
    | ((with_reducible apply gv_bool); (first | with_reducible rfl | assumption | (symm; assumption) | rfl | omega | (simp; done)))
    | ((with_reducible apply gv_str); (first | with_reducible rfl | assumption | (symm; assumption) | rfl | omega | (simp; done)))
    | ((with_reducible apply gv_ints); (repeat (first | with_reducible exact PickO.z | with_reducible apply PickO.s)); (first | with_reducible rfl | assumption | (symm; assumption) | rfl | omega | (simp; done)))
    | ((with_reducible apply gv_nil); (first | with_reducible rfl | assumption | (symm; assumption) | rfl | omega | (simp; done)))
    | ((with_reducible apply gv_own); (repeat (first | with_reducible exact PickO.z | with_reducible apply PickO.s)); done)
    | ((with_reducible apply gv_ownc); (repeat (first | with_reducible exact PickO.z | with_reducible apply PickO.s)); (first | with_reducible rfl | assumption | (symm; assumption) | rfl | omega | (simp; done)); done)
    | with_reducible apply gv_agg
    | with_reducible apply gv_tup
    | ((with_reducible apply gv_box); (repeat (first | with_reducible exact PickO.z | with_reducible apply PickO.s)))
    | ((with_reducible apply gv_sl); (repeat (first | with_reducible exact PickO.z | with_reducible apply PickO.s)); (repeat (first | with_reducible exact PickO.z | with_reducible apply PickO.s)); (first | with_reducible rfl | assumption | (symm; assumption) | rfl | omega | (simp; done)); all_goals decide)
    | ((with_reducible apply gv_sn); (first | with_reducible rfl | assumption | (symm; assumption) | rfl | omega | (simp; done)); rfl)
    | ((with_reducible apply gv_ro); (repeat (first | with_reducible exact PickO.z | with_reducible apply PickO.s)); (first | with_reducible rfl | assumption | (symm; assumption) | rfl | omega | (simp; done)))
    | ((with_reducible apply gv_roR); (repeat (first | with_reducible exact PickO.z | with_reducible apply PickO.s)); (first | with_reducible rfl | assumption | (symm; assumption) | rfl | omega | (simp; done)))
    | ((with_reducible apply gv_roN); (first | with_reducible rfl | assumption | (symm; assumption) | rfl | omega | (simp; done)))
    | ((with_reducible apply gv_intsL); (repeat (first | with_reducible exact PickO.z | with_reducible apply PickO.s)); first | rfl | (simp [ints_]; done))
    | ((with_reducible apply gv_intsM); (repeat (first | with_reducible exact PickO.z | with_reducible apply PickO.s)); assumption; rfl)
    | ((with_reducible apply gv_any); first | rfl | assumption)
    | ((with_reducible apply gv_yes); assumption)
    | ((with_reducible apply gv_no); assumption))) : Gv os T v os' := h
theorem zro {fn : Func} {T : Ty} {w₀ : World} {rs : List ResultVar} {vs : List Value} (x : Up w₀.heap.size w₀ u) (hq : RetQ P fn (RO w₀ T) Q := by exact rq_) (hr : fn.results = rs.toArray := by rfl) (hv : ResOk P n w₀.heap.size [] l os u rs vs := by exact rs_) (ho : OutV vs v := by exact ov_) (g : Gv os T v os' := by exact gv_) : Js P n w₀.heap.size [] Q (.ret :: cs) l os u :=
  Js.ret hr hq.eq hv fun w hw => by
    rw [ho.eq]
    obtain ⟨fp, r, a, b, _⟩ := g w hw.prs
    refine ⟨v, fp, rfl, a, ?_, fun k hk => ?_, hw.ext x⟩
    · exact (List.nodup_append.1 (b.nodup_iff.2 hw.dis)).1
    · have hm : k ∈ os.flatMap (·.fp) := b.mem_iff.1 (List.mem_append_left _ hk)
      obtain ⟨o, ho, hm⟩ := List.mem_flatMap.1 hm
      obtain ⟨p, q, _⟩ := hw.hid o ho k hm
      simp at q
      exact ⟨q, p⟩
theorem zrb (ks : List Nat) {fn : Func} {R : Value → List Own → Prop} {w₀ : World} {bs : List Own} {rs : List ResultVar} {vs : List Value} {fr : List Own} {m : Nat} (hb : Bw w₀ bs) (x : Up w₀.heap.size (offW w₀ (bs.flatMap (·.fp))) u) (h : R v fr)
    (hq : RetQ P fn (RB w₀ bs R) Q := by exact rq_) (hr : fn.results = rs.toArray := by rfl) (hv : ResOk P n w₀.heap.size (bs.flatMap (·.fp)) l os u rs vs := by exact rs_) (ho : OutV vs v := by exact ov_) (hm : ks.length = m := by rfl) (hp : PP os ks os' := by exact pp_) (hf : NL (os'.take m) fr := by exact nl) :
    Js P n w₀.heap.size (bs.flatMap (·.fp)) Q (.ret :: cs) l os u := Js.ret hr hq.eq hv fun w hw => by
  rw [ho.eq]
  have hpm := hp.perm
  have e : os' = fr ++ os'.drop m := by rw [← hf.eq, List.take_append_drop]
  have hw2 : St w₀.heap.size (bs.flatMap (·.fp)) u w (fr ++ [anyO ((os'.drop m).flatMap (·.fp))]) := hw.conv (fun o ho => by
    rcases List.mem_append.1 ho with ho | ho
    · exact hw.prs o (hpm.mem_iff.2 (by rw [e]; exact List.mem_append_left _ ho))
    · simp at ho; subst ho; trivial) (by
    have := hpm.symm.flatMap_right (fun o : Own => o.fp)
    rw [e, List.flatMap_append] at this
    rw [List.flatMap_append]
    simpa [anyO] using this)
  exact ⟨_, fr, _, rfl, h, hw2.giveBack hb x⟩
inductive Row1 : List Own → TypeId → Value → List Int → Prop
  | a {e : TypeId} {v : Value} {m : Nat} {xs : List Int} {g : List Nat} {r : List Own} : Row1 (rowO e 1 v m (ints_ xs) g :: r) e v xs
  | b {e : TypeId} {v : Value} {m : Nat} {xs : List Int} {r : List Own} : Row1 (roO e v m (ints_ xs) :: r) e v xs
  | s {e : TypeId} {v : Value} {xs : List Int} {q : Own} {r : List Own} (h : Row1 r e v xs) : Row1 (q :: r) e v xs
theorem Row1.get {e : TypeId} {v : Value} {xs : List Int} (h : Row1 os e v xs) {w : World} : (∀ o ∈ os, o.pr w) → (Ty.ints e xs).ok w v := by
  induction h with
  | a => intro hp; exact ints_rowok (hp _ List.mem_cons_self)
  | b => intro hp; exact ints_rook (hp _ List.mem_cons_self)
  | s _ ih => intro hp; exact ih fun q hq => hp q (by simp [hq])
inductive Cel : List Ty → List Value → Ty → Value → Prop
  | z {T : Ty} {Ts : List Ty} {v : Value} {vs : List Value} : Cel (T :: Ts) (v :: vs) T v
  | s {T T' : Ty} {Ts : List Ty} {v v' : Value} {vs : List Value} (h : Cel Ts vs T v) : Cel (T' :: Ts) (v' :: vs) T v
theorem Cel.get {vs : List Value} (h : Cel Ts vs T v) : cellsOk w Ts vs → T.ok w v := by
  induction h with
  | z => exact fun k => k.1
  | s _ ih => exact fun k => ih k.2
inductive Own1 : List Own → Ty → Value → Prop
  | a {Us : List Ty} {U : Ty} {v : Value} {vs : List Value} {f : List Nat} {r : List Own} (h : Cel Us vs U v) : Own1 (ownC Us vs f :: r) U v
  | s {U : Ty} {v : Value} {q : Own} {r : List Own} (h : Own1 r U v) : Own1 (q :: r) U v
theorem Own1.get (h : Own1 os T v) {w : World} : (∀ o ∈ os, o.pr w) → T.ok w v := by
  induction h with
  | a h => intro hp; exact h.get (cellsOwn.ok (show cellsOwn w _ _ _ from hp _ List.mem_cons_self))
  | s _ ih => intro hp; exact ih fun q hq => hp q (by simp [hq])
theorem ok_agg {vs : List Value} (h : cellsOk w Ts vs) : (Ty.agg Ts).ok w (.agg vs.toArray) := ⟨vs, rfl, h⟩
theorem ok_c {vs : List Value} (h : T.ok w v) (k : cellsOk w Ts vs) : cellsOk w (T :: Ts) (v :: vs) := ⟨h, k⟩
theorem ok_n : cellsOk w [] [] := trivial
theorem ok_ro {e : TypeId} {xs : List Int} (h : (Ty.ints e xs).ok w v) : (Ty.ro e xs).ok w v := h
inductive LdB : List Own → Nat → List Value → Prop
  | z {b : Nat} {c : List Value} {T : TypeId} {r : List Own} : LdB (boxO b c T :: r) b c
  | s {b : Nat} {c : List Value} {q : Own} {r : List Own} (h : LdB r b c) : LdB (q :: r) b c
theorem LdB.get {b : Nat} {c : List Value} (h : LdB os b c) {w : World} : (∀ o ∈ os, o.pr w) → RowAt w b 0 c := by
  induction h with
  | @z b c T r => intro hp j x hj; exact ⟨_, _, _, hp (boxO b c T) (by simp), by simpa using hj⟩
  | s _ ih => intro hp; exact ih fun q hq => hp q (by simp [hq])
theorem ok_refB {b : Nat} {vs : List Value} (h : LdB os b vs) (hw : St lo B u w os) (k : cellsOk w Ts vs) : (Ty.ref Ts).ok w (.pointer (some ⟨b, 0, none⟩)) := ⟨b, 0, vs, rfl, k, h.get hw.prs⟩
theorem ok_refP {s b o o0 k : Nat} {vs us : List Value} {u0 : World} (hr : RowAt u0 b o0 vs) (hv : Vis u0 w) (hs : Ts.length = s) (ho : Off o o0 k) (hk : NL (takV vs k s) us) (c : cellsOk w Ts us) : (Ty.ref Ts).ok w (.pointer (some ⟨b, o, none⟩)) := ⟨b, o, us, rfl, c, by rw [← hk.eq, takV_eq, ho.eq]; exact (hr.vis hv).sub k s⟩
theorem ok_i {a : Int} : (Ty.int a).ok w (.int .i64 a) := rfl
theorem ok_b {a : Bool} : (Ty.bool a).ok w (.bool a) := rfl
theorem ok_s {a : ByteArray} : (Ty.str a).ok w (.string a) := rfl
theorem ok_ {v : Value} (hw : St lo B u w os) (h : St lo B u w os → T.ok w v := by
    intro hw
    repeat' (first
    | exact ok_i | exact ok_b | with_reducible apply ok_c | with_reducible exact ok_n | with_reducible apply ok_agg | exact ok_s | exact Ty.mono _ (by assumption) vis_ | exact nil_ok | (refine Row1.get ?_ (St.prs hw); (repeat (first | with_reducible exact Row1.a | with_reducible exact Row1.b | with_reducible apply Row1.s)); done) | (refine Own1.get ?_ (St.prs hw); (repeat (first | ((with_reducible apply Own1.a); (repeat (first | with_reducible exact Cel.z | with_reducible apply Cel.s)); done) | with_reducible apply Own1.s)); done) | apply ok_ro
    | ((with_reducible apply ok_refB (hw := hw)); (repeat (first | with_reducible exact LdB.z | with_reducible apply LdB.s))) | (apply ok_refP; assumption; exact vis_; rfl; exact off_; exact nl) | exact rfl | assumption | fail)) : T.ok w v := h hw
end
end Go.Proofs.Ytejnmechnhgmfaa

/- Walks: K18. -/
import Derived.Test.YtjklnidbndopiaaGreatDoorZaA3
import Derived.Test.YtjklnidbndopiaaGreatDoorZaA5
import Derived.Test.YtjklnidbndopiaaGreatDoorZaA4
set_option linter.unusedSimpArgs false
set_option linter.unusedVariables false
set_option maxRecDepth 100000
attribute [local irreducible] Go.Proofs.YtjklnidbndopiaaGreatDoor.gv
set_option maxHeartbeats 8000000
namespace Go.Proofs.YtjklnidbndopiaaGreatDoor
open Go.RowKit
theorem c_spec_l06Names  {w : World}  : Ret Tryz.prog 130 [] w (Ty.strs 9 M.capNames) := by
 refine enter @Tryz.func130 @Tryz.ntmps130 rfl rfl ?_
 refine zent ?_
 refine zS <| Qa rfl <| zN <| zbs fun b1 => ?_
 refine Qa rfl <| JL.nil ?_
 exact zro (Up.refl _ _) (g := by exact (gv_strs po_ (by rfl) (by rfl)))
theorem c_spec_l03Slams  {w : World}  : Ret Tryz.prog 131 [] w (Ty.strs 9 M.slamNames) := by
 refine enter @Tryz.func131 @Tryz.ntmps131 rfl rfl ?_
 refine zent ?_
 refine zS <| Qa rfl <| zN <| zbs fun b1 => ?_
 refine Qa rfl <| JL.nil ?_
 exact zro (Up.refl _ _) (g := by exact (gv_strs po_ (by rfl) (by rfl)))
theorem c_spec_FieldNames  {w : World}  : Ret Tryz.prog 132 [] w (Ty.strs 9 M.fieldNames) := by
 refine enter @Tryz.func132 @Tryz.ntmps132 rfl rfl ?_
 refine zent ?_
 refine zS <| Qa rfl <| zN <| zbs fun b1 => ?_
 refine Qa rfl <| JL.nil ?_
 exact zro (Up.refl _ _) (g := by exact (gv_strs po_ (by rfl) (by rfl)))
theorem c_spec_l03Bit (b : Bool) {w : World}  : RetV Tryz.prog 158 [.bool b] w (.int .i64 (M.bit b)) := by
 refine enter @Tryz.func158 @Tryz.ntmps158 rfl rfl ?_
 refine zent ?_
 refine zS <| Qa rfl <| zJ <| zS <| Qm rfl <| JL.nil ?_
 refine zi (fun h1 h1' => ?_) fun h1 h1' => ?_
 ·
  refine zS <| Qa rfl <| JL.nil ?_
  refine zR (Up.refl _ _) ?_
  first | (simp only [outV, M.bit, *, if_true, if_false]; done) | (simp [outV, M.bit, *])
 refine Js.skip <| zS <| Qa rfl <| JL.nil ?_
 refine zR (Up.refl _ _) ?_
 first | (simp only [outV, M.bit, *, if_true, if_false]; done) | (simp [outV, M.bit, *])
theorem c_spec_l03Values (r : M.Rul) {v_r : Value} {w : World} (h_r : (Ty.ref (cRules r)).ok w v_r) : Ret Tryz.prog 133 [v_r] w (Ty.ints 2 (M.fieldsL r)) := by
 revert v_r; apply opn
 intro b1 o1 hr1
 refine enter @Tryz.func133 @Tryz.ntmps133 rfl rfl ?_
 refine zent ?_
 refine zS <| Qa rfl <| zJ ?_
 refine zdr [] ?_
 refine jM 0 rfl rfl ?_
 refine jN 1 rfl rfl ?_
 refine jF 2 fld_29_0 rfl rfl ?_
 refine jW 3 ty_2 rfl rfl (fun hv => (hr1.vis hv) 0 _ rfl) ?_
 refine jM 4 rfl rfl ?_
 refine jN 5 rfl rfl ?_
 refine jF 6 fld_29_1 rfl rfl ?_
 refine jW 7 ty_2 rfl rfl (fun hv => (hr1.vis hv) 1 _ rfl) ?_
 refine jM 8 rfl rfl ?_
 refine jN 9 rfl rfl ?_
 refine jF 10 fld_29_2 rfl rfl ?_
 refine jW 11 ty_4 rfl rfl (fun hv => (hr1.vis hv) 2 _ rfl) ?_
 refine jM 13 rfl rfl ?_
 refine jN 14 rfl rfl ?_
 refine jF 15 fld_29_3 rfl rfl ?_
 refine jW 16 ty_4 rfl rfl (fun hv => (hr1.vis hv) 3 _ rfl) ?_
 refine jM 18 rfl rfl ?_
 refine jN 19 rfl rfl ?_
 refine jF 20 fld_29_4 rfl rfl ?_
 refine jW 21 ty_4 rfl rfl (fun hv => (hr1.vis hv) 4 _ rfl) ?_
 refine jM 23 rfl rfl ?_
 refine jN 24 rfl rfl ?_
 refine jF 25 fld_29_5 rfl rfl ?_
 refine jW 26 ty_4 rfl rfl (fun hv => (hr1.vis hv) 5 _ rfl) ?_
 refine jM 28 rfl rfl ?_
 refine jN 29 rfl rfl ?_
 refine jF 30 fld_29_6 rfl rfl ?_
 refine jW 31 ty_4 rfl rfl (fun hv => (hr1.vis hv) 6 _ rfl) ?_
 refine jM 33 rfl rfl ?_
 refine jN 34 rfl rfl ?_
 refine jF 35 fld_29_7 rfl rfl ?_
 refine jW 36 ty_2 rfl rfl (fun hv => (hr1.vis hv) 7 _ rfl) ?_
 refine jM 37 rfl rfl ?_
 refine jN 38 rfl rfl ?_
 refine jF 39 fld_29_8 rfl rfl ?_
 refine jW 40 ty_2 rfl rfl (fun hv => (hr1.vis hv) 8 _ rfl) ?_
 refine y1 12 ?_
 refine yv rfl rfl (fun w hw => c_spec_l03Bit r.stores) ?_
 refine y1 17 ?_
 refine yv rfl rfl (fun w hw => c_spec_l03Bit r.skip) ?_
 refine y1 22 ?_
 refine yv rfl rfl (fun w hw => c_spec_l03Bit r.relay) ?_
 refine y1 27 ?_
 refine yv rfl rfl (fun w hw => c_spec_l03Bit r.feed) ?_
 refine y1 32 ?_
 refine yv rfl rfl (fun w hw => c_spec_l03Bit r.again) ?_
 refine y1 41 ?_
 refine ybs rfl fun b2 => ?_
 refine jA 42 rfl rfl ?_
 refine yd ?_
 have hq0 : [r.pits, r.seeds, (M.bit r.stores), (M.bit r.skip), (M.bit r.relay), (M.bit r.feed), (M.bit r.again), r.capture, r.slam] = M.fieldsL r := by first | rfl | (simp [M.fieldsL]; done)
 exact zro (Up.refl _ _)
theorem c_spec_l03Text (r : M.Rul) {v_r : Value} {w : World} (h_r : (Ty.ref (cRules r)).ok w v_r) (r0 : M.okR r = true := by exact om_) : RetV Tryz.prog 80 [v_r] w (.string (sB (M.rulesT r))) := by
 obtain ⟨e1, e2, e3, e4, e5, e6, e7, e8⟩ := M.okR_all r0
 have hl4 : M.capNames.length = 4 := rfl
 have hl3 : M.slamNames.length = 3 := rfl
 have hl9 : M.fieldNames.length = 9 := rfl
 have hf9 : (M.fieldsL r).length = 9 := rfl
 revert v_r; apply opn
 intro b1 o1 hr1
 refine enter @Tryz.func80 @Tryz.ntmps80 rfl rfl ?_
 refine zent ?_
 obtain ⟨ye2, hye2⟩ : ∃ x, M.capNames[r.capture.toNat]? = some x := ⟨_, List.getElem?_eq_getElem (by omega)⟩
 have hcn := M.capName_get e5 hye2
 have lb7 : LenB ye2 9 := ⟨by rw [hcn]; exact M.capName_len _⟩
 obtain ⟨ye3, hye3⟩ : ∃ x, M.slamNames[r.slam.toNat]? = some x := ⟨_, List.getElem?_eq_getElem (by omega)⟩
 have hsn := M.slamName_get e7 hye3
 have lb8 : LenB ye3 7 := ⟨by rw [hsn]; exact M.slamName_len _⟩
 refine zS <| Qa rfl <| zJ ?_
 refine zk [0] (fun F U l os u => l = F [(3, .string (sB (((((((([112, 105, 116, 115, 61] : List UInt8) ++ (M.dec r.pits)) ++ ([32, 115, 101, 101, 100, 115, 61] : List UInt8)) ++ (M.dec r.seeds)) ++ ([32, 99, 97, 112, 116, 117, 114, 101, 61] : List UInt8)) ++ ye2) ++ ([32, 115, 108, 97, 109, 61] : List UInt8)) ++ ye3)))] ∧ os = []) ?_ ?_
 ·
  refine zdr [] ?_
  refine jM 0 rfl rfl ?_
  refine jN 1 rfl rfl ?_
  refine jF 2 fld_29_0 rfl rfl ?_
  refine jW 3 ty_2 rfl rfl (fun hv => (hr1.vis hv) 0 _ rfl) ?_
  refine jM 7 rfl rfl ?_
  refine jN 8 rfl rfl ?_
  refine jF 9 fld_29_1 rfl rfl ?_
  refine jW 10 ty_2 rfl rfl (fun hv => (hr1.vis hv) 1 _ rfl) ?_
  refine jM 15 rfl rfl ?_
  refine jN 16 rfl rfl ?_
  refine jF 17 fld_29_7 rfl rfl ?_
  refine jW 18 ty_2 rfl rfl (fun hv => (hr1.vis hv) 7 _ rfl) ?_
  refine jM 24 rfl rfl ?_
  refine jN 25 rfl rfl ?_
  refine jF 26 fld_29_8 rfl rfl ?_
  refine jW 27 ty_2 rfl rfl (fun hv => (hr1.vis hv) 8 _ rfl) ?_
  refine y1 4 ?_
  refine yv rfl rfl (fun w hw => c_spec_l01Dec r.pits) ?_
  refine JH.p 5 rfl (q_cat rfl rfl) ?_
  refine JH.p 6 rfl (q_cat rfl rfl) ?_
  refine y1 11 ?_
  refine yv rfl rfl (fun w hw => c_spec_l01Dec r.seeds) ?_
  refine JH.p 12 rfl (q_cat rfl rfl) ?_
  refine JH.p 13 rfl (q_cat rfl rfl) ?_
  refine y1 14 ?_
  refine yp rfl rfl (fun w hw => c_spec_l06Names) ?_
  intro u14 x14 A15 c15 h15 bl15 bh15
  have hy16 := hye2
  obtain ⟨b16, o16, he16, hc16⟩ := strs_elem h15 hy16
  refine jI 19 el_72 rfl rfl rfl he16 ?_
  refine y2 20 23 ?_ ?_
  ·
   refine JHo.q rfl (q_load1 ty_9.h rfl (Mem.pub hc16)) ?_
   refine JH.p 21 rfl (q_cat rfl rfl) ?_
   refine JH.p 22 rfl (q_cat rfl rfl) ?_
   refine y1 23 ?_
   refine yp rfl rfl (fun w hw => c_spec_l03Slams) ?_
   intro u17 x17 A18 c18 h18 bl18 bh18
   have hy19 := hye3
   obtain ⟨b19, o19, he19, hc19⟩ := strs_elem h18 hy19
   refine jI 28 el_72 rfl rfl rfl he19 ?_
   refine y1 29 ?_
   refine JHo.q rfl (q_load1 ty_9.h rfl (Mem.pub hc19)) ?_
   refine JH.p 30 rfl (q_cat rfl rfl) ?_
   refine jA 31 rfl rfl ?_
   refine yd ?_
   exact zm ⟨rfl, rfl⟩ (x14.trans x17)
  refine yp rfl rfl (fun w hw => c_spec_l03Slams) ?_
  intro u20 x20 A21 c21 h21 bl21 bh21
  have hy22 := hye3
  obtain ⟨b22, o22, he22, hc22⟩ := strs_elem h21 hy22
  refine jI 28 el_72 rfl rfl rfl he22 ?_
  refine y2 20 29 ?_ ?_
  ·
   refine JHo.q rfl (q_load1 ty_9.h rfl (Mem.pub (hc16.vis x20.vis))) ?_
   refine JH.p 21 rfl (q_cat rfl rfl) ?_
   refine JH.p 22 rfl (q_cat rfl rfl) ?_
   refine y1 29 ?_
   refine JHo.q rfl (q_load1 ty_9.h rfl (Mem.pub hc22)) ?_
   refine JH.p 30 rfl (q_cat rfl rfl) ?_
   refine jA 31 rfl rfl ?_
   refine yd ?_
   exact zm ⟨rfl, rfl⟩ (x14.trans x20)
  refine JHo.q rfl (q_load1 ty_9.h rfl (Mem.pub hc22)) ?_
  refine y1 20 ?_
  refine JHo.q rfl (q_load1 ty_9.h rfl (Mem.pub (hc16.vis x20.vis))) ?_
  refine JH.p 21 rfl (q_cat rfl rfl) ?_
  refine JH.p 22 rfl (q_cat rfl rfl) ?_
  refine JH.p 30 rfl (q_cat rfl rfl) ?_
  refine jA 31 rfl rfl ?_
  refine yd ?_
  exact zm ⟨rfl, rfl⟩ (x14.trans x20)
 rintro _ _ u13 ⟨rfl, rfl⟩ x13
 refine zn ?_
 refine zS <| zp rfl (fun w hw => c_spec_FieldNames) ?_
 intro u23 x23 A24 c24 h24 bl24 bh24
 refine Qa rfl <| zN <| Qm rfl <| zp rfl (fun w hw => c_spec_l03Values r (ok_ hw)) ?_
 intro u25 x25 A26 c26 h26 bl26 bh26
 refine Qa rfl <| zJ <| zS <| Qa rfl <| JL.nil <| Js.block ?_
 refine zl [4, 5] (fun F U l os u m => ∃ (k : Nat) (out : List UInt8), l = F [(3, .string (sB out)), (6, .int .i64 (k : Int))] ∧ os = U [] ∧ (out = M.rulesN r (k - 2)) ∧ (2 ≤ k) ∧ (k ≤ 7) ∧ m = 7 - k) ⟨2, ((((((([112, 105, 116, 115, 61] : List UInt8) ++ (M.dec r.pits)) ++ ([32, 115, 101, 101, 100, 115, 61] : List UInt8)) ++ (M.dec r.seeds)) ++ ([32, 99, 97, 112, 116, 117, 114, 101, 61] : List UInt8)) ++ ye2) ++ ([32, 115, 108, 97, 109, 61] : List UInt8)) ++ ye3, rfl, rfl, by rw [hcn, hsn]; rfl, zt, zt, rfl⟩ ?_
 rintro _ _ u27 _ ⟨k, out, rfl, rfl, hJ, hk2, hk, rfl⟩ x27
 refine zn ?_
 have lb9 : LenB out 155 := ⟨by rw [hJ]; have := M.rulesN_len r (k - 2) (by omega); omega⟩
 refine Js.seq <| zS <| Qm rfl <| Qk rfl rfl <| JL.nil ?_
 refine zi (fun h28 h28' => ?_) fun h28 h28' => ?_
 ·
  have k6 : k ≤ 6 := by have := h28'; omega
  obtain ⟨b29, o29, he29, hc29⟩ := ints_elem (Ty.mono _ h26 x27.vis) (i := k) (by omega)
  refine Js.skip <| Js.seq <| Js.block <| zS <| Qm rfl <| Qm rfl <| Qq (p_indexAddr el_42 rfl rfl (by omega) (by omega) he29) <| QC hc29 rfl <| Qe rfl rfl <| JL.nil ?_
  refine zi (fun h30 h30' => ?_) fun h30 h30' => ?_
  ·
   have hv1 := h30'
   obtain ⟨ye31, hye31⟩ : ∃ x, M.fieldNames[k]? = some x := ⟨_, List.getElem?_eq_getElem (by omega)⟩
   have lb6 : LenB ye31 6 := ⟨M.fNames_len (List.mem_of_getElem? (M.fields_at (r := r) hk2 k6 hye31).1)⟩
   have hJ2 := M.rulesN_s hJ hk2 k6 hye31 hv1
   have hy32 := hye31
   obtain ⟨b32, o32, he32, hc32⟩ := strs_elem (Ty.mono _ h24 (x25.vis.trans x27.vis)) hy32
   refine Js.region <| Qm rfl <| Qm rfl <| Qm rfl <| Qq (p_indexAddr el_72 rfl rfl (by omega) (by omega) he32) <| QC hc32 rfl <| Qq (q_cat rfl rfl) <| Qq (q_cat rfl rfl) <| Qa rfl <| JL.nil <| Js.blockEnd <| Js.region <| Qm rfl <| Qp rfl rfl ?_
   refine Qa rfl <| JL.nil ?_
   exact zag ⟨k + 1, out ++ (([32] : List UInt8) ++ ye31), rfl, rfl, by exact hJ2, zt, zt, rfl⟩ x27
  have hJ2 := M.rulesN_n hJ hk2 k6 (by simpa using h30)
  refine Js.skip <| Js.blockEnd <| Js.region <| Qm rfl <| Qp rfl rfl <| Qa rfl <| JL.nil ?_
  exact zag ⟨k + 1, out, rfl, rfl, by exact hJ2, zt, zt, rfl⟩ x27
 have hJ3 : out = M.rulesT r := M.rulesN_e (k := k - 2) hJ (by have := h28'; omega) (by omega)
 refine zx ?_
 refine zS <| Qm rfl <| Qa rfl <| JL.nil ?_
 refine zR (((x13.trans x23).trans x25).trans x27) ?_
 rw [← hJ3]; rfl
theorem c_spec_l20Text (b : M.Boo) {v_b : Value} {w : World} (h_b : (Ty.ref (cBook b)).ok w v_b) (r0 : M.okB b = true := by exact om_) (r1 : b.entries.length ≤ 4194304 := by exact om_) (r2 : ∀ x ∈ b.entries, x.pits.length ≤ 4194304 ∧ x.choices.length ≤ 4194304 := by exact om_) : RetV Tryz.prog 29 [v_b] w (.string (sB (M.booT b))) := by
 have hok := r0
 have hall := M.okB_all9 hok
 have hn2 := hall.2.1
 have hrl := M.rulesT_len b.rules
 revert v_b; apply opn
 intro b2 o2 A1 c1 h1 bl1 bh1 hr2
 refine enter @Tryz.func29 @Tryz.ntmps29 rfl rfl ?_
 refine zent ?_
 refine zS <| Qa rfl <| zN <| Qm rfl <| Qc rfl <| Qf fh rfl <| zv rfl (fun w hw => c_spec_l03Text b.rules (ok_ hw) (r0 := hall.1)) <| Qq (q_cat rfl rfl) ?_
 refine JL.e (e_toBytes und_9 und_40 @Tryz.underlying5 rfl) ?_
 rintro v3 _ _ ⟨rfl, rfl⟩ _
 refine JL.fact (rowS_form (i := 0) rfl) (fun hf3 => ?_)
 obtain ⟨A3, c3, rfl, bl3, bh3⟩ := hf3
 refine znl ?_
 refine Qa rfl <| zJ <| zS <| Qa rfl <| JL.nil <| Js.block ?_
 refine zl [0] (fun F U l os u m => ∃ (k : Nat) (out : List UInt8) (A4_3 : Option Addr) (c4_3 : Nat) (g4_3 : List Nat), l = F [(3, .slice A4_3 out.length c4_3), (4, .int .i64 (k : Int))] ∧ os = U [some (rowS 5 (.slice A4_3 out.length c4_3) out.length (byt_ out) g4_3)] ∧ (out = M.booN b.rules b.entries k) ∧ (k ≤ b.entries.length) ∧ (out.length ≤ c4_3) ∧ (c4_3 ≤ 9223372036854775807) ∧ m = b.entries.length - k) ⟨0, (M.rulesT b.rules) ++ ([10] : List UInt8), _, _, _, rfl, rfl, by rfl, zt, zu, zu, rfl⟩ ?_
 rintro _ _ u4 _ ⟨k, out, A4_3, c4_3, g4_3, rfl, rfl, hO, hk, f4_2, f4_3, rfl⟩ x4
 refine zn ?_
 have hnl := M.booN_len hok k hk
 have hol : out.length ≤ 200000 := by rw [hO]; omega
 refine Js.seq <| zS <| Qm rfl <| Qm rfl <| Qc rfl <| Qf fh rfl <| QC ((hr2.vis x4.vis) 9 _ rfl) rfl <| Qz rfl <| Ql rfl rfl <| JL.nil ?_
 refine zi (fun h5 h5' => ?_) fun h5 h5' => ?_
 ·
  obtain ⟨ye6, hye6⟩ : ∃ x, b.entries[k]? = some x := ⟨_, List.getElem?_eq_getElem (by omega)⟩
  have heb := (M.okB_all9 hok).2.2 _ (List.mem_of_getElem? hye6)
  have hb1 := heb.p
  have hb2 := heb.g
  have hb3 := heb.c
  have hb4 := heb.v
  have hin := fun j => M.boo_in (j := j) hok hye6
  have ljl := M.joinT_len ye6.pits
  have lbj : LenB (M.joinT ye6.pits) 352 := ⟨by omega⟩
  have hy7 := hye6
  obtain ⟨b7, o7, A7_0, c7_0, A7_1, c7_1, he7, hr7, h7_0, h7_1, bl7_0, bh7_0, bl7_1, bh7_1⟩ := elem_BookEntry (Ty.mono _ h1 x4.vis) hy7
  refine Js.skip <| Js.seq <| Js.block <| zS <| Qm rfl <| Qc rfl <| Qf fh rfl <| QC ((hr2.vis x4.vis) 9 _ rfl) rfl <| Qm rfl <| Qq (p_indexAddr el_30 rfl rfl (by omega) (by omega) he7) <| Qa rfl <| zN <| Qm rfl <| Qm rfl ?_
  refine Qc rfl <| Qf fh rfl <| QC (hr7 0 _ rfl) rfl <| zv rfl (fun w hw => c_spec_l04Join ye6.pits (ok_ hw) (r1 := hb2)) ?_
  refine JL.e (e_appendS (i := 0) (n' := (out ++ (M.joinT ye6.pits)).length) (vs' := byt_ (out ++ (M.joinT ye6.pits))) el_40 rfl rfl rfl rfl (src_str und_9) (by first | omega | (simp only [List.length_append, List.length_cons, List.length_nil] at *; omega)) (by first | omega | (simp only [List.length_append, List.length_cons, List.length_nil] at *; omega)) ln2_ (by first | rfl | (simp [byt_]; done))) ?_
  rintro v8 _ _ ⟨⟨g9, rfl⟩, rfl⟩ _
  refine JL.fact (rowS_form (i := 0) rfl) (fun hf10 => ?_)
  obtain ⟨A10, c10, rfl, bl10, bh10⟩ := hf10
  refine znl ?_
  refine Qa rfl <| zJ <| zS <| Qa rfl <| JL.nil <| Js.block ?_
  refine zl [0, 4, 5] (fun F U l os u m => ∃ (j : Nat) (o2 : List UInt8) (A11_3 : Option Addr) (c11_3 : Nat) (g11_3 : List Nat), l = F [(3, .slice A11_3 o2.length c11_3), (6, .int .i64 (j : Int))] ∧ os = U [some (rowS 5 (.slice A11_3 o2.length c11_3) o2.length (byt_ o2) g11_3)] ∧ (o2 = (M.booN b.rules b.entries k ++ M.joinT ye6.pits) ++ M.chsN ye6.choices j) ∧ (j ≤ ye6.choices.length) ∧ (o2.length ≤ c11_3) ∧ (c11_3 ≤ 9223372036854775807) ∧ m = ye6.choices.length - j) ⟨0, out ++ (M.joinT ye6.pits), _, _, _, rfl, rfl, by rw [← hO]; exact M.chs_0 _ _, zt, zu, zu, rfl⟩ ?_
  rintro _ _ u11 _ ⟨j, o2, A11_3, c11_3, g11_3, rfl, rfl, hJ, hj, f11_2, f11_3, rfl⟩ x11
  refine zn ?_
  have hol2 : o2.length ≤ 200000 := by rw [hJ]; exact hin j hj
  refine Js.seq <| zS <| Qm rfl <| Qm rfl <| Qc rfl <| Qf fh rfl <| QC ((hr7.vis x11.vis) 1 _ rfl) rfl <| Qz rfl <| Ql rfl rfl <| JL.nil ?_
  refine zi (fun h12 h12' => ?_) fun h12 h12' => ?_
  ·
   obtain ⟨ye13, hye13⟩ : ∃ x, ye6.choices[j]? = some x := ⟨_, List.getElem?_eq_getElem (by omega)⟩
   have hzv := hb4 _ (List.mem_of_getElem? hye13)
   have hJ2 := M.chs_step hJ hye13
   have hzl := M.chT_len ye13
   unfold M.chT at hzl
   have hy14 := hye13
   obtain ⟨b14, o14, he14, hr14⟩ := elem_Choice (Ty.mono _ h7_1 x11.vis) hy14
   refine Js.skip <| Js.seq <| Js.block <| zS <| Qm rfl <| Qc rfl <| Qf fh rfl <| QC ((hr7.vis x11.vis) 1 _ rfl) rfl <| Qm rfl <| Qq (p_indexAddr el_54 rfl rfl (by omega) (by omega) he14) <| QS 0 hr14 rfl ?_
   refine za zeh fun b15 => zw 0 rfl rfl rfl ?_
   refine JL.nil ?_
   refine zdr [15] ?_
   refine jM 0 rfl rfl ?_
   refine jF 1 fld_58_0 rfl rfl ?_
   refine jB 2 0 ty_2 rfl rfl rfl rfl ?_
   refine jF 6 fld_58_1 rfl rfl ?_
   refine jB 7 0 ty_2 rfl rfl rfl rfl ?_
   refine jF 11 fld_58_2 rfl rfl ?_
   refine jB 12 0 ty_2 rfl rfl rfl rfl ?_
   refine y1 3 ?_
   refine yv rfl rfl (fun w hw => c_spec_l01Dec ye13.move) ?_
   refine JH.p 4 rfl (q_cat rfl rfl) ?_
   refine JH.p 5 rfl (q_cat rfl rfl) ?_
   refine y1 8 ?_
   refine yv rfl rfl (fun w hw => c_spec_l01Dec ye13.games) ?_
   refine JH.p 9 rfl (q_cat rfl rfl) ?_
   refine JH.p 10 rfl (q_cat rfl rfl) ?_
   refine y1 13 ?_
   refine yv rfl rfl (fun w hw => c_spec_l01Dec ye13.score) ?_
   refine JH.p 14 rfl (q_cat rfl rfl) ?_
   refine y1 15 ?_
   refine JHo.e rfl (e_appendS (i := 1) (n' := (o2 ++ (((((([32] : List UInt8) ++ (M.dec ye13.move)) ++ ([47] : List UInt8)) ++ (M.dec ye13.games)) ++ ([47] : List UInt8)) ++ (M.dec ye13.score))).length) (vs' := byt_ (o2 ++ (((((([32] : List UInt8) ++ (M.dec ye13.move)) ++ ([47] : List UInt8)) ++ (M.dec ye13.games)) ++ ([47] : List UInt8)) ++ (M.dec ye13.score)))) el_40 rfl rfl rfl rfl (src_str und_9) (by first | omega | (simp only [List.length_append, List.length_cons, List.length_nil] at *; omega)) (by first | omega | (simp only [List.length_append, List.length_cons, List.length_nil] at *; omega)) ln2_ (by first | rfl | (simp [byt_]; done))) (.inr rfl) ?_
   rintro v16 _ _ ⟨⟨g17, rfl⟩, rfl⟩ _
   refine JH.fact (rowS_form (i := 1) rfl) (fun hf18 => ?_)
   obtain ⟨A18, c18, rfl, bl18, bh18⟩ := hf18
   refine znh ?_
   refine jA 16 rfl rfl ?_
   refine yd ?_
   refine Js.blockEnd <| Js.region <| Qm rfl <| Qp rfl rfl <| Qa rfl <| JL.nil ?_
   refine zd [1] rfl fun u19 x19 => ?_
   exact zag ⟨j + 1, o2 ++ (((((([32] : List UInt8) ++ (M.dec ye13.move)) ++ ([47] : List UInt8)) ++ (M.dec ye13.games)) ++ ([47] : List UInt8)) ++ (M.dec ye13.score)), _, _, _, rfl, rfl, by exact hJ2, zt, zu, zu, rfl⟩ (x11.trans x19)
  have hO2 := M.boo_step hye6 hJ (by have := h12'; omega) hj
  have hol2 : o2.length ≤ 200000 := by rw [hJ]; exact hin j hj
  refine zx ?_
  have hu22 : ((M.u8 10).toNat : Int) = 10 := M.u8_val (by omega) (by omega)
  refine Js.region <| Qm rfl <| zbs fun b20 => ?_
  refine JL.e (e_appendS (i := 1) (n' := (o2 ++ ([M.u8 10] : List UInt8)).length) (vs' := byt_ (o2 ++ ([M.u8 10] : List UInt8))) el_40 rfl rfl rfl rfl (src_rowG (i := 0) und_40 rfl rfl) (by first | omega | (simp only [List.length_append, List.length_cons, List.length_nil] at *; omega)) (by first | omega | (simp only [List.length_append, List.length_cons, List.length_nil] at *; omega)) ln2_ (by first | rfl | (simp [byt_, hu22]; done))) ?_
  rintro v23 _ _ ⟨⟨g24, rfl⟩, rfl⟩ _
  refine JL.fact (rowS_form (i := 1) rfl) (fun hf25 => ?_)
  obtain ⟨A25, c25, rfl, bl25, bh25⟩ := hf25
  refine znl ?_
  refine Qa rfl <| JL.nil <| Js.blockEnd <| Js.region <| Qm rfl <| Qp rfl rfl <| Qa rfl <| JL.nil ?_
  refine zd [1] rfl fun u26 x26 => ?_
  exact zag ⟨k + 1, o2 ++ ([M.u8 10] : List UInt8), _, _, _, rfl, rfl, by exact hO2, zt, zu, zu, rfl⟩ ((x4.trans x11).trans x26)
 have hO3 := M.boo_e hO (by have := h5'; omega) hk
 have hnl := M.booN_len hok k hk
 have hol : out.length ≤ 200000 := by rw [hO]; omega
 refine zx ?_
 refine zS <| Qm rfl <| Qw (q_toStrS (i := 0) und_40 @Tryz.underlying5 und_9 rfl rfl) <| Qa rfl <| JL.nil ?_
 refine zR x4 ?_
 rw [← hO3]; rfl
theorem c_spec_BookText (b : M.Boo) {v_b : Value} {w : World} (h_b : (Ty.agg (cBook b)).ok w v_b) (r0 : b.entries.length ≤ 4194304 := by exact om_) (r1 : ∀ x ∈ b.entries, x.pits.length ≤ 4194304 ∧ x.choices.length ≤ 4194304 := by exact om_) : RetV Tryz.prog 7 [v_b] w (.string (sB (M.booTR b))) := by
 revert v_b; apply opn
 intro A1 c1 h1 bl1 bh1
 refine enter @Tryz.func7 @Tryz.ntmps7 rfl rfl ?_
 refine zent ?_
 refine zS <| zb rfl fun b2 => Qa rfl <| zJ <| zS <| zv rfl (fun w hw => c_spec_l20Ok b (ok_ hw) (r1 := r1)) <| Qt rfl <| JL.nil ?_
 refine zi (fun h3 h3' => ?_) fun h3 h3' => ?_
 ·
  have hE := M.booTR_n (b := b) (by simpa using h3)
  refine zS <| Qa rfl <| JL.nil ?_
  refine zR (Up.refl _ _) ?_
  first | (rw [hE]; done) | (rw [hE]; rfl)
 have hok : M.okB b = true := by simpa using h3
 have hE := M.booTR_y hok
 refine Js.skip <| zS <| zv rfl (fun w hw => c_spec_l20Text b (ok_ hw) (r0 := hok) (r2 := r1)) <| Qa rfl <| JL.nil ?_
 refine zR (Up.refl _ _) ?_
 first | (rw [hE]; done) | (rw [hE]; rfl)
theorem c_laws_szInt64S (a : List Int) {v_a : Value} (left : Int) {w : World} (h_a : (Ty.ints 2 a).ok w v_a) (r0 : -1 ≤ left := by exact om_) (r1 : left ≤ 1048576 := by exact om_) : RetV Tryz.prog 127 [v_a, .int .i64 left] w (.int .i64 (M.szL a.length left)) := by
 have q1 := M.szL_cases a.length left
 revert v_a; apply opn
 intro A1 c1 h1 bl1 bh1
 have h_a := h1
 refine enter @Tryz.func127 @Tryz.ntmps127 rfl rfl ?_
 refine zent ?_
 refine zS <| Qa rfl <| zN <| Qm rfl <| Qm rfl <| Qz rfl <| Qs rfl rfl <| Qa rfl <| zJ <| zS <| Qm rfl <| Ql rfl rfl <| JL.nil ?_
 refine zi (fun h2 h2' => ?_) fun h2 h2' => ?_
 ·
  refine zS <| Qa rfl <| JL.nil ?_
  refine zR (Up.refl _ _) ?_
  refine congrArg (fun n => Ending.returned (Value.int .i64 n)) ?_; omega
 refine Js.skip <| zS <| Qm rfl <| Qa rfl <| JL.nil ?_
 refine zR (Up.refl _ _) ?_
 refine congrArg (fun n => Ending.returned (Value.int .i64 n)) ?_; omega
theorem c_laws_toInt64S (a : List Int) {v_a : Value} {w : World} (h_a : (Ty.ints 2 a).ok w v_a) (r0 : a.length ≤ 4194304 := by exact om_) : Ret Tryz.prog 134 [v_a] w (Ty.ints 2 a) := by
 revert v_a; apply opn
 intro A1 c1 h1 bl1 bh1
 have h_a := h1
 refine enter @Tryz.func134 @Tryz.ntmps134 rfl rfl ?_
 refine zent ?_
 refine zS <| Qa rfl <| zN <| Qm rfl <| Qz rfl <| zmk (a0 := (a.length : Int)) (m := a.length) (by omega) (by omega) fun b2 => Qa rfl <| zJ <| zS <| Qa rfl <| JL.nil <| Js.block ?_
 refine zl [0, 3] (fun F U l os u m => ∃ (k : Nat) (xs : List Int), l = F [(4, .int .i64 (k : Int))] ∧ os = U [some (rowO 2 1 (.slice (some ⟨b2, 0, none⟩) a.length a.length) a.length (ints_ xs) [])] ∧ (xs = M.cp a k) ∧ (k ≤ a.length) ∧ (xs.length = a.length) ∧ m = a.length - k) ⟨0, List.replicate a.length 0, rfl, rfl, by exact M.cp_zero a, zt, by simp, rfl⟩ ?_
 rintro _ _ u3 _ ⟨k, xs, rfl, rfl, hX, hk, hl, rfl⟩ x3
 refine zn ?_
 refine Js.seq <| zS <| Qm rfl <| Qm rfl <| Qz rfl <| Ql rfl rfl <| JL.nil ?_
 refine zi (fun h4 h4' => ?_) fun h4 h4' => ?_
 ·
  obtain ⟨b5, o5, he5, hc5⟩ := ints_elem (Ty.mono _ h1 x3.vis) (i := k) (by omega)
  refine Js.skip <| Js.seq <| Js.block <| Js.region <| Qm rfl <| Qm rfl <| Qm rfl <| Qm rfl <| Qq (p_indexAddr el_42 rfl rfl (by omega) (by omega) he5) <| QC hc5 rfl <| Qq (p_indexAddr el_42 rfl rfl (by omega) (by omega) rfl) ?_
  refine JL.s (e_storeRow (i := 0) (xs' := ints_ (xs.set k (M.nth a k))) ty_2.h rfl rfl rfl rfl rfl rfl (ints_lt (i := k) (by omega)) (ints_setL (i := k) (by omega))) ?_
  rintro _ _ _ ⟨rfl, rfl⟩ _
  refine znl ?_
  refine JL.nil <| Js.blockEnd <| Js.region <| Qm rfl <| Qp rfl rfl <| Qa rfl <| JL.nil ?_
  exact zag ⟨k + 1, xs.set k (M.nth a k), rfl, rfl, by rw [hX]; exact M.cp_step (by omega), zt, by rw [List.length_set]; exact hl, rfl⟩ x3
 have hE : xs = a := by rw [hX]; exact M.cp_all a (by have := h4'; omega)
 refine zx ?_
 have hq0 : xs = a := by exact hE
 refine zS <| Qm rfl <| Qa rfl <| JL.nil ?_
 exact zro x3
theorem c_laws_toRules (a : M.Rul) {v_a : Value} {w : World} (h_a : (Ty.agg (cRules a)).ok w v_a) : Ret Tryz.prog 30 [v_a] w (Ty.agg (cRules a)) := by
 revert v_a; apply opn
 refine enter @Tryz.func30 @Tryz.ntmps30 rfl rfl ?_
 refine zent ?_
 refine zS <| zb rfl fun b1 => za zeh fun b2 => zN <| za zeh fun b3 => zN <| Qf fh rfl <| Q0 2 rfl rfl rfl <| Qf fh rfl <| zw 0 rfl rfl rfl ?_
 refine zN <| Qf fh rfl <| Q0 2 rfl rfl rfl <| Qf fh rfl <| zw 0 rfl rfl rfl ?_
 refine zN <| Qf fh rfl <| Q0 2 rfl rfl rfl <| Qf fh rfl <| zw 0 rfl rfl rfl ?_
 refine zN <| Qf fh rfl <| Q0 2 rfl rfl rfl <| Qf fh rfl <| zw 0 rfl rfl rfl ?_
 refine zN <| Qf fh rfl <| Q0 2 rfl rfl rfl <| Qf fh rfl <| zw 0 rfl rfl rfl ?_
 refine zN <| Qf fh rfl <| Q0 2 rfl rfl rfl <| Qf fh rfl <| zw 0 rfl rfl rfl ?_
 refine zN <| Qf fh rfl <| Q0 2 rfl rfl rfl <| Qf fh rfl <| zw 0 rfl rfl rfl ?_
 refine zN <| Qf fh rfl <| Q0 2 rfl rfl rfl <| Qf fh rfl <| zw 0 rfl rfl rfl ?_
 refine zN <| Qf fh rfl <| Q0 2 rfl rfl rfl <| Qf fh rfl <| zw 0 rfl rfl rfl ?_
 refine zN <| Q9 0 rfl rfl ?_
 refine zw 1 rfl rfl rfl ?_
 refine JL.nil ?_
 exact zro (Up.refl _ _)
theorem c_laws_eqInt64S (a : List Int) {v_a : Value} (b : List Int) {v_b : Value} {w : World} (h_a : (Ty.ints 2 a).ok w v_a) (h_b : (Ty.ints 2 b).ok w v_b) (r0 : a.length ≤ 4194304 := by exact om_) (r1 : b.length ≤ 4194304 := by exact om_) : RetV Tryz.prog 137 [v_a, v_b] w (.bool (decide (a = b))) := by
 revert v_a; apply opn
 intro A1 c1 h1 bl1 bh1
 have h_a := h1
 revert v_b; apply opn
 intro A2 c2 h2 bl2 bh2
 have h_b := h2
 refine enter @Tryz.func137 @Tryz.ntmps137 rfl rfl ?_
 refine zent ?_
 refine zS <| Qa rfl <| zJ <| zS <| Qm rfl <| Qz rfl <| Qm rfl <| Qz rfl <| Qd rfl rfl <| JL.nil ?_
 refine zi (fun h3 h3' => ?_) fun h3 h3' => ?_
 ·
  have e1 : decide (a = b) = false := by simp; rintro rfl; simp at h3
  refine zS <| Qa rfl <| JL.nil ?_
  refine zR (Up.refl _ _) ?_
  simp [outV, e1]
 have hlen : a.length = b.length := by have := h3'; omega
 refine Js.skip <| Js.seq <| zS <| Qa rfl <| JL.nil <| Js.block ?_
 refine zl [0, 1] (fun F U l os u m => ∃ (k : Nat), l = F [(5, .int .i64 (k : Int))] ∧ os = U [] ∧ (k ≤ a.length) ∧ (M.Upto a b k) ∧ m = a.length - k) ⟨0, rfl, rfl, zt, by exact M.Upto.zero _ _, rfl⟩ ?_
 rintro _ _ u4 _ ⟨k, rfl, rfl, hk, hU, rfl⟩ x4
 refine zn ?_
 refine Js.seq <| zS <| Qm rfl <| Qm rfl <| Qz rfl <| Ql rfl rfl <| JL.nil ?_
 refine zi (fun h5 h5' => ?_) fun h5 h5' => ?_
 ·
  refine Js.skip <| Js.seq <| Js.block <| Js.seq ?_
  refine zdr [] ?_
  refine jM 0 rfl rfl ?_
  refine jM 1 rfl rfl ?_
  obtain ⟨b6, o6, he6, hc6⟩ := ints_elem (Ty.mono _ h1 x4.vis) (i := k) (by omega)
  refine jI 2 el_42 rfl rfl rfl he6 ?_
  refine jW 3 ty_2 rfl rfl hc6.vis ?_
  refine jM 4 rfl rfl ?_
  refine jM 5 rfl rfl ?_
  obtain ⟨b7, o7, he7, hc7⟩ := ints_elem (Ty.mono _ h2 x4.vis) (i := k) (by omega)
  refine jI 6 el_42 rfl rfl rfl he7 ?_
  refine jW 7 ty_2 rfl rfl hc7.vis ?_
  refine JH.p 8 rfl (p_neq rfl rfl) ?_
  refine yd ?_
  refine zi (fun h8 h8' => ?_) fun h8 h8' => ?_
  ·
   have e1 : decide (a = b) = false := by simpa using M.ne_of_nth (a := a) (b := b) (k := k) (by simpa using h8)
   refine zS <| Qa rfl <| JL.nil ?_
   refine zR x4 ?_
   simp [outV, e1]
  have hab : M.nth a k = M.nth b k := by simpa using h8
  refine Js.skip <| Js.blockEnd <| Js.region <| Qm rfl <| Qp rfl rfl <| Qa rfl <| JL.nil ?_
  exact zag ⟨k + 1, rfl, rfl, zt, by exact hU.step (by omega) (by omega) hab, rfl⟩ x4
 have e1 : a = b := hU.done (by omega) (by omega)
 refine zx ?_
 refine zS <| Qa rfl <| JL.nil ?_
 refine zR x4 ?_
 simp [outV, e1]
theorem c_laws_eqRules (a : M.Rul) {v_a : Value} (b : M.Rul) {v_b : Value} {w : World} (h_a : (Ty.agg (cRules a)).ok w v_a) (h_b : (Ty.agg (cRules b)).ok w v_b) : RetV Tryz.prog 35 [v_a, v_b] w (.bool (decide (a = b))) := by
 revert v_a; apply opn
 revert v_b; apply opn
 refine enter @Tryz.func35 @Tryz.ntmps35 rfl rfl ?_
 refine zent ?_
 refine zS <| zb rfl fun b1 => zb rfl fun b2 => Qa rfl <| zJ <| zS <| Qf fh rfl <| Q0 1 rfl rfl rfl <| Qf fh rfl <| Q0 0 rfl rfl rfl <| Qd rfl rfl <| JL.nil ?_
 refine zi (fun h3 h3' => ?_) fun h3 h3' => ?_
 ·
  have hne : a ≠ b := by rintro rfl; simp at h3
  refine zS <| Qa rfl <| JL.nil ?_
  refine zR (Up.refl _ _) ?_
  first | (rw [decide_eq_false hne]; rfl) | (rw [decide_eq_true (M.rul_ext q0 q1 q2 q3 q4 q5 q6 q7 q8)]; rfl)
 have q0 : a.pits = b.pits := by simpa using h3
 refine Js.skip <| Js.seq <| zS <| Qf fh rfl <| Q0 1 rfl rfl rfl <| Qf fh rfl <| Q0 0 rfl rfl rfl <| Qd rfl rfl <| JL.nil ?_
 refine zi (fun h4 h4' => ?_) fun h4 h4' => ?_
 ·
  have hne : a ≠ b := by rintro rfl; simp at h4
  refine zS <| Qa rfl <| JL.nil ?_
  refine zR (Up.refl _ _) ?_
  first | (rw [decide_eq_false hne]; rfl) | (rw [decide_eq_true (M.rul_ext q0 q1 q2 q3 q4 q5 q6 q7 q8)]; rfl)
 have q1 : a.seeds = b.seeds := by simpa using h4
 refine Js.skip <| Js.seq <| zS <| Qf fh rfl <| Q0 1 rfl rfl rfl <| Qf fh rfl <| Q0 0 rfl rfl rfl <| Qq (p_neqB und_4 rfl rfl) <| JL.nil ?_
 refine zi (fun h5 h5' => ?_) fun h5 h5' => ?_
 ·
  have hne : a ≠ b := by rintro rfl; simp at h5
  refine zS <| Qa rfl <| JL.nil ?_
  refine zR (Up.refl _ _) ?_
  first | (rw [decide_eq_false hne]; rfl) | (rw [decide_eq_true (M.rul_ext q0 q1 q2 q3 q4 q5 q6 q7 q8)]; rfl)
 have q2 : a.stores = b.stores := by simpa using h5
 refine Js.skip <| Js.seq <| zS <| Qf fh rfl <| Q0 1 rfl rfl rfl <| Qf fh rfl <| Q0 0 rfl rfl rfl <| Qq (p_neqB und_4 rfl rfl) <| JL.nil ?_
 refine zi (fun h6 h6' => ?_) fun h6 h6' => ?_
 ·
  have hne : a ≠ b := by rintro rfl; simp at h6
  refine zS <| Qa rfl <| JL.nil ?_
  refine zR (Up.refl _ _) ?_
  first | (rw [decide_eq_false hne]; rfl) | (rw [decide_eq_true (M.rul_ext q0 q1 q2 q3 q4 q5 q6 q7 q8)]; rfl)
 have q3 : a.skip = b.skip := by simpa using h6
 refine Js.skip <| Js.seq <| zS <| Qf fh rfl <| Q0 1 rfl rfl rfl <| Qf fh rfl <| Q0 0 rfl rfl rfl <| Qq (p_neqB und_4 rfl rfl) <| JL.nil ?_
 refine zi (fun h7 h7' => ?_) fun h7 h7' => ?_
 ·
  have hne : a ≠ b := by rintro rfl; simp at h7
  refine zS <| Qa rfl <| JL.nil ?_
  refine zR (Up.refl _ _) ?_
  first | (rw [decide_eq_false hne]; rfl) | (rw [decide_eq_true (M.rul_ext q0 q1 q2 q3 q4 q5 q6 q7 q8)]; rfl)
 have q4 : a.relay = b.relay := by simpa using h7
 refine Js.skip <| Js.seq <| zS <| Qf fh rfl <| Q0 1 rfl rfl rfl <| Qf fh rfl <| Q0 0 rfl rfl rfl <| Qq (p_neqB und_4 rfl rfl) <| JL.nil ?_
 refine zi (fun h8 h8' => ?_) fun h8 h8' => ?_
 ·
  have hne : a ≠ b := by rintro rfl; simp at h8
  refine zS <| Qa rfl <| JL.nil ?_
  refine zR (Up.refl _ _) ?_
  first | (rw [decide_eq_false hne]; rfl) | (rw [decide_eq_true (M.rul_ext q0 q1 q2 q3 q4 q5 q6 q7 q8)]; rfl)
 have q5 : a.feed = b.feed := by simpa using h8
 refine Js.skip <| Js.seq <| zS <| Qf fh rfl <| Q0 1 rfl rfl rfl <| Qf fh rfl <| Q0 0 rfl rfl rfl <| Qq (p_neqB und_4 rfl rfl) <| JL.nil ?_
 refine zi (fun h9 h9' => ?_) fun h9 h9' => ?_
 ·
  have hne : a ≠ b := by rintro rfl; simp at h9
  refine zS <| Qa rfl <| JL.nil ?_
  refine zR (Up.refl _ _) ?_
  first | (rw [decide_eq_false hne]; rfl) | (rw [decide_eq_true (M.rul_ext q0 q1 q2 q3 q4 q5 q6 q7 q8)]; rfl)
 have q6 : a.again = b.again := by simpa using h9
 refine Js.skip <| Js.seq <| zS <| Qf fh rfl <| Q0 1 rfl rfl rfl <| Qf fh rfl <| Q0 0 rfl rfl rfl <| Qd rfl rfl <| JL.nil ?_
 refine zi (fun h10 h10' => ?_) fun h10 h10' => ?_
 ·
  have hne : a ≠ b := by rintro rfl; simp at h10
  refine zS <| Qa rfl <| JL.nil ?_
  refine zR (Up.refl _ _) ?_
  first | (rw [decide_eq_false hne]; rfl) | (rw [decide_eq_true (M.rul_ext q0 q1 q2 q3 q4 q5 q6 q7 q8)]; rfl)
 have q7 : a.capture = b.capture := by simpa using h10
 refine Js.skip <| Js.seq <| zS <| Qf fh rfl <| Q0 1 rfl rfl rfl <| Qf fh rfl <| Q0 0 rfl rfl rfl <| Qd rfl rfl <| JL.nil ?_
 refine zi (fun h11 h11' => ?_) fun h11 h11' => ?_
 ·
  have hne : a ≠ b := by rintro rfl; simp at h11
  refine zS <| Qa rfl <| JL.nil ?_
  refine zR (Up.refl _ _) ?_
  first | (rw [decide_eq_false hne]; rfl) | (rw [decide_eq_true (M.rul_ext q0 q1 q2 q3 q4 q5 q6 q7 q8)]; rfl)
 have q8 : a.slam = b.slam := by simpa using h11
 refine Js.skip <| zS <| Qa rfl <| JL.nil ?_
 refine zR (Up.refl _ _) ?_
 first | (rw [decide_eq_false hne]; rfl) | (rw [decide_eq_true (M.rul_ext q0 q1 q2 q3 q4 q5 q6 q7 q8)]; rfl)
theorem c_laws_toChoice (a : M.Cho) {v_a : Value} {w : World} (h_a : (Ty.agg (cChoice a)).ok w v_a) : Ret Tryz.prog 159 [v_a] w (Ty.agg (cChoice a)) := by
 revert v_a; apply opn
 refine enter @Tryz.func159 @Tryz.ntmps159 rfl rfl ?_
 refine zent ?_
 refine zS <| zb rfl fun b1 => za zeh fun b2 => zN <| za zeh fun b3 => zN <| Qf fh rfl <| Q0 2 rfl rfl rfl <| Qf fh rfl <| zw 0 rfl rfl rfl ?_
 refine zN <| Qf fh rfl <| Q0 2 rfl rfl rfl <| Qf fh rfl <| zw 0 rfl rfl rfl ?_
 refine zN <| Qf fh rfl <| Q0 2 rfl rfl rfl <| Qf fh rfl <| zw 0 rfl rfl rfl ?_
 refine zN <| Q9 0 rfl rfl ?_
 refine zw 1 rfl rfl rfl ?_
 refine JL.nil ?_
 exact zro (Up.refl _ _)
theorem c_laws_toChoiceS (a : List M.Cho) {v_a : Value} {w : World} (h_a : (Ty.sl 58 3 a.length (lChoice a)).ok w v_a) (r0 : a.length ≤ 4194304 := by exact om_) : Ret Tryz.prog 135 [v_a] w (Ty.sl 58 3 a.length (lChoice a)) := by
 revert v_a; apply opn
 intro A1 c1 h1 bl1 bh1
 have h_a := h1
 refine enter @Tryz.func135 @Tryz.ntmps135 rfl rfl ?_
 refine zent ?_
 refine zS <| Qa rfl <| zN <| Qm rfl <| Qz rfl <| zmkF vcChoice M.Cho.zero (a0 := (a.length : Int)) (m := a.length) (by omega) (by omega) fun b2 => Qa rfl <| zJ <| zS <| Qa rfl <| JL.nil <| Js.block ?_
 refine zl [0, 3] (fun F U l os u m => ∃ (i : Nat) (xs : List M.Cho), l = F [(4, .int .i64 (i : Int))] ∧ os = U [some (rowO 58 3 (.slice (some ⟨b2, 0, none⟩) a.length a.length) a.length (fltV vcChoice xs) [])] ∧ (xs = M.cpS M.Cho.zero a i) ∧ (i ≤ a.length) ∧ (xs.length = a.length) ∧ m = a.length - i) ⟨0, List.replicate a.length M.Cho.zero, rfl, rfl, by exact M.cpS_zero _ _, zt, by simp, rfl⟩ ?_
 rintro _ _ u3 _ ⟨i, xs, rfl, rfl, hX, hi, hl, rfl⟩ x3
 refine zn ?_
 refine Js.seq <| zS <| Qm rfl <| Qm rfl <| Qz rfl <| Ql rfl rfl <| JL.nil ?_
 refine zi (fun h4 h4' => ?_) fun h4 h4' => ?_
 ·
  have hgt : a[i]? = some (M.cho a i) := M.cho_get (by omega)
  have hy5 : a[i]? = some (M.cho a i) := M.cho_get (by omega)
  obtain ⟨b5, o5, he5, hr5⟩ := elem_Choice (Ty.mono _ h1 x3.vis) hy5
  refine Js.skip <| Js.seq <| Js.block <| Js.region <| Qm rfl <| Qm rfl <| Qm rfl <| Qm rfl <| Qq (p_indexAddr el_119 rfl rfl (by omega) (by omega) he5) <| QS 0 hr5 rfl ?_
  refine zp rfl (fun w hw => c_laws_toChoice (M.cho a i) (ok_ hw)) ?_
  intro u6 x6
  have hy7 : xs[i]? = some (M.cho xs i) := M.cho_get len_
  refine Qq (p_indexAddr el_54 rfl rfl len_ len_ rfl) ?_
  refine JL.s (e_storeRow (i := 0) (xs' := fltV vcChoice (xs.set i (M.cho a i))) ty_58.h rfl rfl rfl rfl rfl rfl (fltV_lt (C := vcChoice) (j := 0) (fun _ => rfl) len_ (by decide)) (fltV_set (C := vcChoice) (y := (M.cho a i)) (fun _ => rfl) len_)) ?_
  rintro _ _ _ ⟨rfl, rfl⟩ _
  refine znl ?_
  refine JL.nil <| Js.blockEnd <| Js.region <| Qm rfl <| Qp rfl rfl <| Qa rfl <| JL.nil ?_
  exact zag ⟨i + 1, xs.set i (M.cho a i), rfl, rfl, by rw [hX]; exact M.cpS_step hgt, zt, by rw [List.length_set]; exact hl, rfl⟩ (x3.trans x6)
 have hE : xs = a := by rw [hX]; exact M.cpS_all (by have := h4'; omega)
 refine zx ?_
 have hq0 : xs = a := by exact hE
 refine zS <| Qm rfl <| Qa rfl <| JL.nil ?_
 exact zro x3 (g := by exact (gv_flat lChoice (xs := xs) po_ (by first | rfl | (simp [fltV]; done)) (by first | with_reducible rfl | assumption | rfl)))
theorem c_laws_toBookEntry (a : M.Ent) {v_a : Value} {w : World} (h_a : (Ty.agg (cBookEntry a)).ok w v_a) (r0 : a.pits.length ≤ 4194304 := by exact om_) (r1 : a.choices.length ≤ 4194304 := by exact om_) : Ret Tryz.prog 83 [v_a] w (Ty.agg (cBookEntry a)) := by
 revert v_a; apply opn
 intro A1 c1 h1 bl1 bh1 A2 c2 h2 bl2 bh2
 refine enter @Tryz.func83 @Tryz.ntmps83 rfl rfl ?_
 refine zent ?_
 refine zS <| zb rfl fun b3 => za zeh fun b4 => zN <| za zeh fun b5 => zN <| Qf fh rfl <| Q0 2 rfl rfl rfl <| zcs rfl (fun w hw => c_laws_toInt64S a.pits (ok_ hw)) ?_
 intro A6 c6 bl6 bh6
 refine Qf fh rfl <| zw 1 rfl rfl rfl ?_
 refine zN <| Qf fh rfl <| Q0 3 rfl rfl rfl <| zcs rfl (fun w hw => c_laws_toChoiceS a.choices (ok_ hw)) ?_
 intro A7 c7 bl7 bh7
 refine Qf fh rfl <| zw 2 rfl rfl rfl ?_
 refine zN <| Q9 2 rfl rfl ?_
 refine zw 3 rfl rfl rfl ?_
 refine JL.nil ?_
 exact zro (Up.refl _ _) (g := by exact (gv_agg (gvc gv_ (gvc (gv_flat lChoice (xs := a.choices) po_ (by first | rfl | (simp [fltV]; done)) (by first | with_reducible rfl | assumption | rfl)) gvn))))
theorem c_laws_toBookEntryS (a : List M.Ent) {v_a : Value} {w : World} (h_a : (Ty.sl 67 2 a.length (lBookEntry a)).ok w v_a) (r0 : a.length ≤ 4194304 := by exact om_) (r1 : ∀ x ∈ a, x.pits.length ≤ 4194304 ∧ x.choices.length ≤ 4194304 := by exact om_) : Ret Tryz.prog 31 [v_a] w (Ty.sl 67 2 a.length (lBookEntry a)) := by
 revert v_a; apply opn
 intro A1 c1 h1 bl1 bh1
 have h_a := h1
 refine enter @Tryz.func31 @Tryz.ntmps31 rfl rfl ?_
 refine zent ?_
 refine zS <| Qa rfl <| zN <| Qm rfl <| Qz rfl <| zmkN cBookEntry M.Ent.zero (a0 := (a.length : Int)) (m := a.length) (by omega) (by omega) zown_BookEntry fun b2 => Qa rfl <| zJ <| zS <| Qa rfl <| JL.nil <| Js.block ?_
 refine zl [0, 3] (fun F U l os u m => ∃ (i : Nat) (xs : List M.Ent) (vs3_0 : List Value) (fl3_0 : List Nat), l = F [(4, .int .i64 (i : Int))] ∧ os = U [some (rowO 67 2 (.slice (some ⟨b2, 0, none⟩) a.length a.length) a.length vs3_0 []), some (ownC (lBookEntry xs) vs3_0 fl3_0)] ∧ (xs = M.cpS M.Ent.zero a i) ∧ (i ≤ a.length) ∧ (xs.length = a.length) ∧ m = a.length - i) ⟨0, List.replicate a.length M.Ent.zero, _, _, rfl, rfl, by exact M.cpS_zero _ _, zt, by simp, rfl⟩ ?_
 rintro _ _ u3 _ ⟨i, xs, vs3_0, fl3_0, rfl, rfl, hX, hi, hl, rfl⟩ x3
 refine zn ?_
 refine Js.seq <| zS <| Qm rfl <| Qm rfl <| Qz rfl <| Ql rfl rfl <| JL.nil ?_
 refine zi (fun h4 h4' => ?_) fun h4 h4' => ?_
 ·
  have hgt : a[i]? = some (M.ent a i) := M.ent_get (by omega)
  obtain ⟨e1_, e2_⟩ := r1 _ (List.mem_of_getElem? hgt)
  have hy5 : a[i]? = some (M.ent a i) := M.ent_get (by omega)
  obtain ⟨b5, o5, A5_0, c5_0, A5_1, c5_1, he5, hr5, h5_0, h5_1, bl5_0, bh5_0, bl5_1, bh5_1⟩ := elem_BookEntry (Ty.mono _ h1 x3.vis) hy5
  refine Js.skip <| Js.seq <| Js.block <| Js.region <| Qm rfl <| Qm rfl <| Qm rfl <| Qm rfl <| Qq (p_indexAddr el_24 rfl rfl (by omega) (by omega) he5) <| QS 0 hr5 rfl ?_
  refine zcs rfl (fun w hw => c_laws_toBookEntry (M.ent a i) (ok_ hw)) ?_
  intro A6_0 c6_0 bl6_0 bh6_0 A6_1 c6_1 bl6_1 bh6_1 f6
  have hy7 : xs[i]? = some (M.ent xs i) := M.ent_get len_
  refine JL.fact (fun w hw => elemv_BookEntry (Mem.ownC (i := 2) rfl w hw) hy7) (fun hf7 => ?_)
  obtain ⟨A7_0, c7_0, A7_1, c7_1, he7, bl7_0, bh7_0, bl7_1, bh7_1⟩ := hf7
  refine Qq (p_indexAddr el_30 rfl rfl (by omega) (by omega) rfl) ?_
  refine JL.fact (fun w hw => elem_in cBookEntry (m := 2) (k := i) (xs := xs) (fun _ => rfl) (Mem.ownC (i := 2) rfl w hw) len_) (fun hl8 => ?_)
  refine JL.ex3 (fun w hw => St.elemS cBookEntry (m := 2) (i := 2) (xs := xs) (fun _ => rfl) rfl hy7 he7 hw) (fun f8_1 f8_2 f8_3 => ?_)
  refine znl ?_
  refine JL.pk (cBookEntry (M.ent a i)) [.slice A6_0 (((M.ent a i).pits).length) c6_0, .slice A6_1 (((M.ent a i).choices).length) c6_1] (fun f9 G9 => ?_)
  refine znl ?_
  refine JL.s (e_storeRow (i := 5) (xs' := setL vs3_0 (0 + i * 2) [.slice A6_0 (((M.ent a i).pits).length) c6_0, .slice A6_1 (((M.ent a i).choices).length) c6_1]) ty_67.h rfl rfl rfl rfl rfl rfl (by omega) rfl) ?_
  rintro _ _ _ ⟨rfl, rfl⟩ _
  refine zhl [4, 0, 2] ?_
  refine JL.conv (fun w hw => St.closeE cBookEntry (k := i) (m := 2) (xs := xs) (y := (M.ent a i)) (vs := vs3_0) (vs' := (setL vs3_0 (0 + i * 2) [.slice A6_0 (((M.ent a i).pits).length) c6_0, .slice A6_1 (((M.ent a i).choices).length) c6_1])) len_ rfl rfl hw) ?_
  refine znl ?_
  refine znl ?_
  refine JL.nil <| Js.blockEnd <| Js.region <| Qm rfl <| Qp rfl rfl <| Qa rfl <| JL.nil ?_
  refine zd [3, 0] rfl fun u10 x10 => ?_
  exact zag ⟨i + 1, xs.set i (M.ent a i), _, _, rfl, rfl, by rw [hX]; exact M.cpS_step hgt, zt, by rw [List.length_set]; exact hl, rfl⟩ (x3.trans x10)
 have hE : xs = a := by rw [hX]; exact M.cpS_all (by have := h4'; omega)
 refine zx ?_
 have hq0 : xs = a := by exact hE
 refine zS <| Qm rfl <| Qa rfl <| JL.nil ?_
 exact zro x3
theorem c_laws_toBook (a : M.Boo) {v_a : Value} {w : World} (h_a : (Ty.agg (cBook a)).ok w v_a) (r0 : a.entries.length ≤ 4194304 := by exact om_) (r1 : ∀ x ∈ a.entries, x.pits.length ≤ 4194304 ∧ x.choices.length ≤ 4194304 := by exact om_) : Ret Tryz.prog 8 [v_a] w (Ty.agg (cBook a)) := by
 revert v_a; apply opn
 intro A1 c1 h1 bl1 bh1
 refine enter @Tryz.func8 @Tryz.ntmps8 rfl rfl ?_
 refine zent ?_
 refine zS <| zb rfl fun b2 => za zeh fun b3 => zN <| za zeh fun b4 => zN <| Qf fh rfl <| Q9 2 rfl rfl ?_
 refine zc rfl (fun w hw => c_laws_toRules a.rules (ok_ hw)) <| Qf fh rfl <| zw 0 rfl rfl rfl ?_
 refine zN <| Qf fh rfl <| Q0 2 rfl rfl rfl <| zcs rfl (fun w hw => c_laws_toBookEntryS a.entries (ok_ hw) (r1 := r1)) ?_
 intro A6 c6 vs6 f6 bl6 bh6
 refine Qf fh rfl <| zw 2 rfl rfl rfl ?_
 refine zN <| Q9 2 rfl rfl ?_
 refine zw 3 rfl rfl rfl ?_
 refine JL.nil ?_
 exact zro (Up.refl _ _)
theorem c_laws_szChoiceS (a : List M.Cho) {v_a : Value} (left : Int) {w : World} (h_a : (Ty.sl 58 3 a.length (lChoice a)).ok w v_a) (r0 : -1 ≤ left := by exact om_) (r1 : left ≤ 1048576 := by exact om_) : RetV Tryz.prog 128 [v_a, .int .i64 left] w (.int .i64 (M.szL a.length left)) := by
 have q1 := M.szL_cases a.length left
 revert v_a; apply opn
 intro A1 c1 h1 bl1 bh1
 have h_a := h1
 refine enter @Tryz.func128 @Tryz.ntmps128 rfl rfl ?_
 refine zent ?_
 refine zS <| Qa rfl <| zN <| Qm rfl <| Qm rfl <| Qz rfl <| Qs rfl rfl <| Qa rfl <| zJ <| zS <| Qm rfl <| Ql rfl rfl <| JL.nil ?_
 refine zi (fun h2 h2' => ?_) fun h2 h2' => ?_
 ·
  refine zS <| Qa rfl <| JL.nil ?_
  refine zR (Up.refl _ _) ?_
  refine congrArg (fun n => Ending.returned (Value.int .i64 n)) ?_; omega
 refine Js.skip <| zS <| Qm rfl <| Qa rfl <| JL.nil ?_
 refine zR (Up.refl _ _) ?_
 refine congrArg (fun n => Ending.returned (Value.int .i64 n)) ?_; omega
theorem c_laws_szBookEntry (a : M.Ent) {v_a : Value} (left : Int) {w : World} (h_a : (Ty.agg (cBookEntry a)).ok w v_a) (r0 : -1 ≤ left := by exact om_) (r1 : left ≤ 1048576 := by exact om_) : RetV Tryz.prog 76 [v_a, .int .i64 left] w (.int .i64 (M.szL (a.pits.length + a.choices.length) left)) := by
 have q1 := M.szL_cases a.pits.length left
 have q2 := M.szL_cases a.choices.length (M.szL a.pits.length left)
 have q3 := M.szL_cases (a.pits.length + a.choices.length) left
 revert v_a; apply opn
 intro A1 c1 h1 bl1 bh1 A2 c2 h2 bl2 bh2
 refine enter @Tryz.func76 @Tryz.ntmps76 rfl rfl ?_
 refine zent ?_
 refine zS <| zb rfl fun b3 => Qa rfl <| zN <| Qf fh rfl <| Q0 0 rfl rfl rfl <| Qm rfl <| zv rfl (fun w hw => c_laws_szInt64S a.pits left (ok_ hw)) <| Qa rfl <| zJ <| zS <| Qm rfl <| Ql rfl rfl <| JL.nil ?_
 refine zi (fun h4 h4' => ?_) fun h4 h4' => ?_
 ·
  refine zS <| Qa rfl <| JL.nil ?_
  refine zR (Up.refl _ _) ?_
  refine congrArg (fun n => Ending.returned (Value.int .i64 n)) ?_; omega
 refine Js.skip <| zS <| Qf fh rfl <| Q0 0 rfl rfl rfl <| Qm rfl <| zv rfl (fun w hw => c_laws_szChoiceS a.choices (M.szL a.pits.length left) (ok_ hw)) <| Qa rfl <| zJ <| zS <| Qm rfl <| Ql rfl rfl <| JL.nil ?_
 refine zi (fun h5 h5' => ?_) fun h5 h5' => ?_
 ·
  refine zS <| Qa rfl <| JL.nil ?_
  refine zR (Up.refl _ _) ?_
  refine congrArg (fun n => Ending.returned (Value.int .i64 n)) ?_; omega
 refine Js.skip <| zS <| Qm rfl <| Qa rfl <| JL.nil ?_
 refine zR (Up.refl _ _) ?_
 refine congrArg (fun n => Ending.returned (Value.int .i64 n)) ?_; omega
theorem c_laws_szBookEntryS (a : List M.Ent) {v_a : Value} (left : Int) {w : World} (h_a : (Ty.sl 67 2 a.length (lBookEntry a)).ok w v_a) (r0 : -1 ≤ left := by exact om_) (r1 : left ≤ 1048576 := by exact om_) : RetV Tryz.prog 27 [v_a, .int .i64 left] w (.int .i64 (M.szL (a.length + M.totE a) left)) := by
 have q1 := M.szL_cases (a.length + M.totE a) left
 revert v_a; apply opn
 intro A1 c1 h1 bl1 bh1
 have h_a := h1
 refine enter @Tryz.func27 @Tryz.ntmps27 rfl rfl ?_
 refine zent ?_
 refine zS <| Qa rfl <| zN <| Qm rfl <| Qm rfl <| Qz rfl <| Qs rfl rfl <| Qa rfl <| zJ <| zS <| Qm rfl <| Ql rfl rfl <| JL.nil ?_
 refine zi (fun h2 h2' => ?_) fun h2 h2' => ?_
 ·
  refine zS <| Qa rfl <| JL.nil ?_
  refine zR (Up.refl _ _) ?_
  refine congrArg (fun n => Ending.returned (Value.int .i64 n)) ?_; omega
 refine Js.skip <| Js.seq <| zS <| Qa rfl <| JL.nil <| Js.block ?_
 refine zl [0] (fun F U l os u m => ∃ (i : Nat) (ll : Int), l = F [(1, .int .i64 ll), (5, .int .i64 (i : Int))] ∧ os = U [] ∧ (ll = left - (a.length : Int) - (M.totE (a.take i) : Int)) ∧ (0 ≤ ll) ∧ (i ≤ a.length) ∧ (ll ≤ 1048576) ∧ m = a.length - i) ⟨0, left - (a.length : Int), rfl, rfl, by simp [M.totE], zt, zt, by omega, rfl⟩ ?_
 rintro _ _ u3 _ ⟨i, ll, rfl, rfl, hL, hge, hi, hle, rfl⟩ x3
 refine zn ?_
 refine Js.seq <| zS <| Qm rfl <| Qm rfl <| Qz rfl <| Ql rfl rfl <| JL.nil ?_
 refine zi (fun h4 h4' => ?_) fun h4 h4' => ?_
 ·
  have t1 := M.totE_step (es := a) (i := i) (by omega)
  have t2 := M.totE_le a (i + 1)
  have q2 := M.szL_cases ((M.ent a i).pits.length + (M.ent a i).choices.length) ll
  have hy5 : a[i]? = some (M.ent a i) := M.ent_get (by omega)
  obtain ⟨b5, o5, A5_0, c5_0, A5_1, c5_1, he5, hr5, h5_0, h5_1, bl5_0, bh5_0, bl5_1, bh5_1⟩ := elem_BookEntry (Ty.mono _ h1 x3.vis) hy5
  refine Js.skip <| Js.seq <| Js.block <| zS <| Qm rfl <| Qm rfl <| Qq (p_indexAddr el_24 rfl rfl (by omega) (by omega) he5) <| QS 0 hr5 rfl ?_
  refine Qm rfl <| zv rfl (fun w hw => c_laws_szBookEntry (M.ent a i) ll (ok_ hw)) <| Qa rfl <| zN <| Qm rfl <| Ql rfl rfl <| JL.nil ?_
  refine zi (fun h6 h6' => ?_) fun h6 h6' => ?_
  ·
   refine zS <| Qa rfl <| JL.nil ?_
   refine zR x3 ?_
   refine congrArg (fun n => Ending.returned (Value.int .i64 n)) ?_; omega
  refine Js.skip <| Js.blockEnd <| Js.region <| Qm rfl <| Qp rfl rfl <| Qa rfl <| JL.nil ?_
  exact zag ⟨i + 1, M.szL ((M.ent a i).pits.length + (M.ent a i).choices.length) ll, rfl, rfl, by omega, by omega, zt, by omega, rfl⟩ x3
 have t3 : a.take i = a := List.take_of_length_le (by have := h4'; omega)
 rw [t3] at hL
 refine zx ?_
 refine zS <| Qm rfl <| Qa rfl <| JL.nil ?_
 refine zR x3 ?_
 refine congrArg (fun n => Ending.returned (Value.int .i64 n)) ?_; omega
theorem c_laws_szBook (a : M.Boo) {v_a : Value} (left : Int) {w : World} (h_a : (Ty.agg (cBook a)).ok w v_a) (r0 : -1 ≤ left := by exact om_) (r1 : left ≤ 1048576 := by exact om_) : RetV Tryz.prog 6 [v_a, .int .i64 left] w (.int .i64 (M.szL (a.entries.length + M.totE a.entries) left)) := by
 have q1 := M.szL_cases (a.entries.length + M.totE a.entries) left
 revert v_a; apply opn
 intro A1 c1 h1 bl1 bh1
 refine enter @Tryz.func6 @Tryz.ntmps6 rfl rfl ?_
 refine zent ?_
 refine zS <| zb rfl fun b2 => Qa rfl <| zN <| Qf fh rfl <| Q0 0 rfl rfl rfl <| Qm rfl <| zv rfl (fun w hw => c_laws_szBookEntryS a.entries left (ok_ hw)) <| Qa rfl <| zJ <| zS <| Qm rfl <| Ql rfl rfl <| JL.nil ?_
 refine zi (fun h3 h3' => ?_) fun h3 h3' => ?_
 ·
  refine zS <| Qa rfl <| JL.nil ?_
  refine zR (Up.refl _ _) ?_
  refine congrArg (fun n => Ending.returned (Value.int .i64 n)) ?_; omega
 refine Js.skip <| zS <| Qm rfl <| Qa rfl <| JL.nil ?_
 refine zR (Up.refl _ _) ?_
 refine congrArg (fun n => Ending.returned (Value.int .i64 n)) ?_; omega
theorem c_laws_eqChoice (a : M.Cho) {v_a : Value} (b : M.Cho) {v_b : Value} {w : World} (h_a : (Ty.agg (cChoice a)).ok w v_a) (h_b : (Ty.agg (cChoice b)).ok w v_b) : RetV Tryz.prog 164 [v_a, v_b] w (.bool (decide (a = b))) := by
 revert v_a; apply opn
 revert v_b; apply opn
 refine enter @Tryz.func164 @Tryz.ntmps164 rfl rfl ?_
 refine zent ?_
 refine zS <| zb rfl fun b1 => zb rfl fun b2 => Qa rfl <| zJ <| zS <| Qf fh rfl <| Q0 1 rfl rfl rfl <| Qf fh rfl <| Q0 0 rfl rfl rfl <| Qd rfl rfl <| JL.nil ?_
 refine zi (fun h3 h3' => ?_) fun h3 h3' => ?_
 ·
  have hne : a ≠ b := by rintro rfl; simp at h3
  refine zS <| Qa rfl <| JL.nil ?_
  refine zR (Up.refl _ _) ?_
  first | (rw [decide_eq_false hne]; rfl) | (rw [decide_eq_true (M.cho_ext q0 q1 q2)]; rfl)
 have q0 : a.move = b.move := by simpa using h3
 refine Js.skip <| Js.seq <| zS <| Qf fh rfl <| Q0 1 rfl rfl rfl <| Qf fh rfl <| Q0 0 rfl rfl rfl <| Qd rfl rfl <| JL.nil ?_
 refine zi (fun h4 h4' => ?_) fun h4 h4' => ?_
 ·
  have hne : a ≠ b := by rintro rfl; simp at h4
  refine zS <| Qa rfl <| JL.nil ?_
  refine zR (Up.refl _ _) ?_
  first | (rw [decide_eq_false hne]; rfl) | (rw [decide_eq_true (M.cho_ext q0 q1 q2)]; rfl)
 have q1 : a.games = b.games := by simpa using h4
 refine Js.skip <| Js.seq <| zS <| Qf fh rfl <| Q0 1 rfl rfl rfl <| Qf fh rfl <| Q0 0 rfl rfl rfl <| Qd rfl rfl <| JL.nil ?_
 refine zi (fun h5 h5' => ?_) fun h5 h5' => ?_
 ·
  have hne : a ≠ b := by rintro rfl; simp at h5
  refine zS <| Qa rfl <| JL.nil ?_
  refine zR (Up.refl _ _) ?_
  first | (rw [decide_eq_false hne]; rfl) | (rw [decide_eq_true (M.cho_ext q0 q1 q2)]; rfl)
 have q2 : a.score = b.score := by simpa using h5
 refine Js.skip <| zS <| Qa rfl <| JL.nil ?_
 refine zR (Up.refl _ _) ?_
 first | (rw [decide_eq_false hne]; rfl) | (rw [decide_eq_true (M.cho_ext q0 q1 q2)]; rfl)
theorem c_laws_eqChoiceS (a : List M.Cho) {v_a : Value} (b : List M.Cho) {v_b : Value} {w : World} (h_a : (Ty.sl 58 3 a.length (lChoice a)).ok w v_a) (h_b : (Ty.sl 58 3 b.length (lChoice b)).ok w v_b) (r0 : a.length ≤ 4194304 := by exact om_) (r1 : b.length ≤ 4194304 := by exact om_) : RetV Tryz.prog 138 [v_a, v_b] w (.bool (decide (a = b))) := by
 revert v_a; apply opn
 intro A1 c1 h1 bl1 bh1
 have h_a := h1
 revert v_b; apply opn
 intro A2 c2 h2 bl2 bh2
 have h_b := h2
 refine enter @Tryz.func138 @Tryz.ntmps138 rfl rfl ?_
 refine zent ?_
 refine zS <| Qa rfl <| zJ <| zS <| Qm rfl <| Qz rfl <| Qm rfl <| Qz rfl <| Qd rfl rfl <| JL.nil ?_
 refine zi (fun h3 h3' => ?_) fun h3 h3' => ?_
 ·
  have e1 : decide (a = b) = false := by simp; rintro rfl; simp at h3
  refine zS <| Qa rfl <| JL.nil ?_
  refine zR (Up.refl _ _) ?_
  simp [outV, e1]
 have hlen : a.length = b.length := by have := h3'; omega
 refine Js.skip <| Js.seq <| zS <| Qa rfl <| JL.nil <| Js.block ?_
 refine zl [0, 1] (fun F U l os u m => ∃ (k : Nat), l = F [(5, .int .i64 (k : Int))] ∧ os = U [] ∧ (k ≤ a.length) ∧ (a.take k = b.take k) ∧ m = a.length - k) ⟨0, rfl, rfl, zt, by rfl, rfl⟩ ?_
 rintro _ _ u4 _ ⟨k, rfl, rfl, hk, hU, rfl⟩ x4
 refine zn ?_
 refine Js.seq <| zS <| Qm rfl <| Qm rfl <| Qz rfl <| Ql rfl rfl <| JL.nil ?_
 refine zi (fun h5 h5' => ?_) fun h5 h5' => ?_
 ·
  obtain ⟨ye6, hye6⟩ : ∃ x, a[k]? = some x := ⟨_, List.getElem?_eq_getElem (by omega)⟩
  obtain ⟨ye7, hye7⟩ : ∃ x, b[k]? = some x := ⟨_, List.getElem?_eq_getElem (by omega)⟩
  refine Js.skip <| Js.seq <| Js.block <| Js.seq ?_
  refine zdr [] ?_
  refine jM 0 rfl rfl ?_
  refine jM 1 rfl rfl ?_
  have hy8 := hye6
  obtain ⟨b8, o8, he8, hr8⟩ := elem_Choice (Ty.mono _ h1 x4.vis) hy8
  refine jI 2 el_54 rfl rfl rfl he8 ?_
  refine JH.w 3 rfl (fun os' u' hv => LS 0 (hr8.vis hv) rfl) ?_
  refine jM 4 rfl rfl ?_
  refine jM 5 rfl rfl ?_
  have hy9 := hye7
  obtain ⟨b9, o9, he9, hr9⟩ := elem_Choice (Ty.mono _ h2 x4.vis) hy9
  refine jI 6 el_54 rfl rfl rfl he9 ?_
  refine JH.w 7 rfl (fun os' u' hv => LS 0 (hr9.vis hv) rfl) ?_
  refine y1 8 ?_
  refine yv rfl rfl (fun w hw => c_laws_eqChoice ye6 ye7 (ok_ hw) (ok_ hw)) ?_
  refine JH.p 9 rfl (p_not rfl) ?_
  refine yd ?_
  refine zi (fun h10 h10' => ?_) fun h10 h10' => ?_
  ·
   have e1 : decide (a = b) = false := decide_eq_false (M.upto_ne hye6 hye7 (by simpa using h10))
   refine zS <| Qa rfl <| JL.nil ?_
   refine zR x4 ?_
   simp [outV, e1]
  have hab : ye6 = ye7 := by simpa using h10
  rw [← hab] at hye7
  have hU2 := M.upto_step hU hye6 hye7
  refine Js.skip <| Js.blockEnd <| Js.region <| Qm rfl <| Qp rfl rfl <| Qa rfl <| JL.nil ?_
  exact zag ⟨k + 1, rfl, rfl, zt, by exact hU2, rfl⟩ x4
 have e1 : a = b := M.upto_done hU (by have := h5'; omega) (by have := h5'; omega)
 refine zx ?_
 refine zS <| Qa rfl <| JL.nil ?_
 refine zR x4 ?_
 simp [outV, e1]
theorem c_laws_eqBookEntry (a : M.Ent) {v_a : Value} (b : M.Ent) {v_b : Value} {w : World} (h_a : (Ty.agg (cBookEntry a)).ok w v_a) (h_b : (Ty.agg (cBookEntry b)).ok w v_b) (r0 : a.pits.length ≤ 4194304 := by exact om_) (r1 : a.choices.length ≤ 4194304 := by exact om_) (r2 : b.pits.length ≤ 4194304 := by exact om_) (r3 : b.choices.length ≤ 4194304 := by exact om_) : RetV Tryz.prog 89 [v_a, v_b] w (.bool (decide (a = b))) := by
 revert v_a; apply opn
 intro A1 c1 h1 bl1 bh1 A2 c2 h2 bl2 bh2
 revert v_b; apply opn
 intro A3 c3 h3 bl3 bh3 A4 c4 h4 bl4 bh4
 refine enter @Tryz.func89 @Tryz.ntmps89 rfl rfl ?_
 refine zent ?_
 refine zS <| zb rfl fun b5 => zb rfl fun b6 => Qa rfl <| zJ <| zS <| Qf fh rfl <| Q0 1 rfl rfl rfl <| Qf fh rfl <| Q0 0 rfl rfl rfl <| zv rfl (fun w hw => c_laws_eqInt64S a.pits b.pits (ok_ hw) (ok_ hw)) <| Qt rfl <| JL.nil ?_
 refine zi (fun h7 h7' => ?_) fun h7 h7' => ?_
 ·
  have hne : a ≠ b := by rintro rfl; simp at h7
  refine zS <| Qa rfl <| JL.nil ?_
  refine zR (Up.refl _ _) ?_
  first | (rw [decide_eq_false hne]; rfl) | (rw [decide_eq_true (M.ent_ext q0 q1)]; rfl)
 have q0 : a.pits = b.pits := by simpa using h7
 refine Js.skip <| Js.seq <| zS <| Qf fh rfl <| Q0 1 rfl rfl rfl <| Qf fh rfl <| Q0 0 rfl rfl rfl <| zv rfl (fun w hw => c_laws_eqChoiceS a.choices b.choices (ok_ hw) (ok_ hw)) <| Qt rfl <| JL.nil ?_
 refine zi (fun h8 h8' => ?_) fun h8 h8' => ?_
 ·
  have hne : a ≠ b := by rintro rfl; simp at h8
  refine zS <| Qa rfl <| JL.nil ?_
  refine zR (Up.refl _ _) ?_
  first | (rw [decide_eq_false hne]; rfl) | (rw [decide_eq_true (M.ent_ext q0 q1)]; rfl)
 have q1 : a.choices = b.choices := by simpa using h8
 refine Js.skip <| zS <| Qa rfl <| JL.nil ?_
 refine zR (Up.refl _ _) ?_
 first | (rw [decide_eq_false hne]; rfl) | (rw [decide_eq_true (M.ent_ext q0 q1)]; rfl)
theorem c_laws_eqBookEntryS (a : List M.Ent) {v_a : Value} (b : List M.Ent) {v_b : Value} {w : World} (h_a : (Ty.sl 67 2 a.length (lBookEntry a)).ok w v_a) (h_b : (Ty.sl 67 2 b.length (lBookEntry b)).ok w v_b) (r0 : a.length ≤ 4194304 := by exact om_) (r1 : b.length ≤ 4194304 := by exact om_) (r2 : ∀ x ∈ a, x.pits.length ≤ 4194304 ∧ x.choices.length ≤ 4194304 := by exact om_) (r3 : ∀ x ∈ b, x.pits.length ≤ 4194304 ∧ x.choices.length ≤ 4194304 := by exact om_) : RetV Tryz.prog 36 [v_a, v_b] w (.bool (decide (a = b))) := by
 revert v_a; apply opn
 intro A1 c1 h1 bl1 bh1
 have h_a := h1
 revert v_b; apply opn
 intro A2 c2 h2 bl2 bh2
 have h_b := h2
 refine enter @Tryz.func36 @Tryz.ntmps36 rfl rfl ?_
 refine zent ?_
 refine zS <| Qa rfl <| zJ <| zS <| Qm rfl <| Qz rfl <| Qm rfl <| Qz rfl <| Qd rfl rfl <| JL.nil ?_
 refine zi (fun h3 h3' => ?_) fun h3 h3' => ?_
 ·
  have e1 : decide (a = b) = false := by simp; rintro rfl; simp at h3
  refine zS <| Qa rfl <| JL.nil ?_
  refine zR (Up.refl _ _) ?_
  simp [outV, e1]
 have hlen : a.length = b.length := by have := h3'; omega
 refine Js.skip <| Js.seq <| zS <| Qa rfl <| JL.nil <| Js.block ?_
 refine zl [0, 1] (fun F U l os u m => ∃ (k : Nat), l = F [(5, .int .i64 (k : Int))] ∧ os = U [] ∧ (k ≤ a.length) ∧ (a.take k = b.take k) ∧ m = a.length - k) ⟨0, rfl, rfl, zt, by rfl, rfl⟩ ?_
 rintro _ _ u4 _ ⟨k, rfl, rfl, hk, hU, rfl⟩ x4
 refine zn ?_
 refine Js.seq <| zS <| Qm rfl <| Qm rfl <| Qz rfl <| Ql rfl rfl <| JL.nil ?_
 refine zi (fun h5 h5' => ?_) fun h5 h5' => ?_
 ·
  obtain ⟨ye6, hye6⟩ : ∃ x, a[k]? = some x := ⟨_, List.getElem?_eq_getElem (by omega)⟩
  obtain ⟨ye7, hye7⟩ : ∃ x, b[k]? = some x := ⟨_, List.getElem?_eq_getElem (by omega)⟩
  refine Js.skip <| Js.seq <| Js.block <| Js.seq ?_
  refine zdr [] ?_
  refine jM 0 rfl rfl ?_
  refine jM 1 rfl rfl ?_
  have hy8 := hye6
  obtain ⟨b8, o8, A8_0, c8_0, A8_1, c8_1, he8, hr8, h8_0, h8_1, bl8_0, bh8_0, bl8_1, bh8_1⟩ := elem_BookEntry (Ty.mono _ h1 x4.vis) hy8
  refine jI 2 el_30 rfl rfl rfl he8 ?_
  refine JH.w 3 rfl (fun os' u' hv => LS 0 (hr8.vis hv) rfl) ?_
  refine jM 4 rfl rfl ?_
  refine jM 5 rfl rfl ?_
  have hy9 := hye7
  obtain ⟨b9, o9, A9_0, c9_0, A9_1, c9_1, he9, hr9, h9_0, h9_1, bl9_0, bh9_0, bl9_1, bh9_1⟩ := elem_BookEntry (Ty.mono _ h2 x4.vis) hy9
  refine jI 6 el_30 rfl rfl rfl he9 ?_
  refine JH.w 7 rfl (fun os' u' hv => LS 0 (hr9.vis hv) rfl) ?_
  refine y1 8 ?_
  refine yv rfl rfl (fun w hw => c_laws_eqBookEntry ye6 ye7 (ok_ hw) (ok_ hw) (r0 := (by have := r2 _ (List.mem_of_getElem? hye6); omega)) (r1 := (by have := r2 _ (List.mem_of_getElem? hye6); omega)) (r2 := (by have := r3 _ (List.mem_of_getElem? hye7); omega)) (r3 := (by have := r3 _ (List.mem_of_getElem? hye7); omega))) ?_
  refine JH.p 9 rfl (p_not rfl) ?_
  refine yd ?_
  refine zi (fun h10 h10' => ?_) fun h10 h10' => ?_
  ·
   have e1 : decide (a = b) = false := decide_eq_false (M.upto_ne hye6 hye7 (by simpa using h10))
   refine zS <| Qa rfl <| JL.nil ?_
   refine zR x4 ?_
   simp [outV, e1]
  have hab : ye6 = ye7 := by simpa using h10
  rw [← hab] at hye7
  have hU2 := M.upto_step hU hye6 hye7
  refine Js.skip <| Js.blockEnd <| Js.region <| Qm rfl <| Qp rfl rfl <| Qa rfl <| JL.nil ?_
  exact zag ⟨k + 1, rfl, rfl, zt, by exact hU2, rfl⟩ x4
 have e1 : a = b := M.upto_done hU (by have := h5'; omega) (by have := h5'; omega)
 refine zx ?_
 refine zS <| Qa rfl <| JL.nil ?_
 refine zR x4 ?_
 simp [outV, e1]
theorem c_laws_eqBook (a : M.Boo) {v_a : Value} (b : M.Boo) {v_b : Value} {w : World} (h_a : (Ty.agg (cBook a)).ok w v_a) (h_b : (Ty.agg (cBook b)).ok w v_b) (r0 : a.entries.length ≤ 4194304 := by exact om_) (r1 : ∀ x ∈ a.entries, x.pits.length ≤ 4194304 ∧ x.choices.length ≤ 4194304 := by exact om_) (r2 : b.entries.length ≤ 4194304 := by exact om_) (r3 : ∀ x ∈ b.entries, x.pits.length ≤ 4194304 ∧ x.choices.length ≤ 4194304 := by exact om_) : RetV Tryz.prog 10 [v_a, v_b] w (.bool (decide (a = b))) := by
 revert v_a; apply opn
 intro A1 c1 h1 bl1 bh1
 revert v_b; apply opn
 intro A2 c2 h2 bl2 bh2
 refine enter @Tryz.func10 @Tryz.ntmps10 rfl rfl ?_
 refine zent ?_
 refine zS <| zb rfl fun b3 => zb rfl fun b4 => Qa rfl <| zJ <| zS <| Qf fh rfl <| Q9 1 rfl rfl ?_
 refine Qf fh rfl <| Q9 0 rfl rfl ?_
 refine zv rfl (fun w hw => c_laws_eqRules a.rules b.rules (ok_ hw) (ok_ hw)) <| Qt rfl <| JL.nil ?_
 refine zi (fun h5 h5' => ?_) fun h5 h5' => ?_
 ·
  have hne : a ≠ b := by rintro rfl; simp at h5
  refine zS <| Qa rfl <| JL.nil ?_
  refine zR (Up.refl _ _) ?_
  first | (rw [decide_eq_false hne]; rfl) | (rw [decide_eq_true (M.boo_ext q0 q1)]; rfl)
 have q0 : a.rules = b.rules := by simpa using h5
 refine Js.skip <| Js.seq <| zS <| Qf fh rfl <| Q0 1 rfl rfl rfl <| Qf fh rfl <| Q0 0 rfl rfl rfl <| zv rfl (fun w hw => c_laws_eqBookEntryS a.entries b.entries (ok_ hw) (ok_ hw) (r2 := r1) (r3 := r3)) <| Qt rfl <| JL.nil ?_
 refine zi (fun h6 h6' => ?_) fun h6 h6' => ?_
 ·
  have hne : a ≠ b := by rintro rfl; simp at h6
  refine zS <| Qa rfl <| JL.nil ?_
  refine zR (Up.refl _ _) ?_
  first | (rw [decide_eq_false hne]; rfl) | (rw [decide_eq_true (M.boo_ext q0 q1)]; rfl)
 have q1 : a.entries = b.entries := by simpa using h6
 refine Js.skip <| zS <| Qa rfl <| JL.nil ?_
 refine zR (Up.refl _ _) ?_
 first | (rw [decide_eq_false hne]; rfl) | (rw [decide_eq_true (M.boo_ext q0 q1)]; rfl)
theorem c_laws_FnExactBookText (aB : M.Boo) {v_aB : Value} {w : World} (h_aB : (Ty.agg (cBook aB)).ok w v_aB) (h_tab : tabT.ok w undef) : RetV Tryz.prog 3 [v_aB] w (.bool true) := by
 have q4 := M.szL_cases (aB.entries.length + M.totE aB.entries) 1048576
 revert v_aB; apply opn
 intro A1 c1 h1 bl1 bh1
 refine enter @Tryz.func3 @Tryz.ntmps3 rfl rfl ?_
 refine zent ?_
 refine zS <| zb rfl fun b2 => Qa rfl <| zN <| Qa rfl <| zN <| Q9 0 rfl rfl ?_
 refine Qm rfl <| zv rfl (fun w hw => c_laws_szBook aB 1048576 (ok_ hw)) <| Qa rfl <| zJ <| zS <| Qm rfl <| Ql rfl rfl <| JL.nil ?_
 refine zi (fun h3 h3' => ?_) fun h3 h3' => ?_
 ·
  refine zS <| Qa rfl <| JL.nil ?_
  exact zr (Up.refl _ _)
 refine Js.skip <| zS <| Q9 0 rfl rfl ?_
 refine zp rfl (fun w hw => c_laws_toBook aB (ok_ hw) (r1 := (M.totE_small (n := 4194304) (by omega)))) ?_
 intro u4 x4 A5 c5 h5 bl5 bh5
 refine zv rfl (fun w hw => c_spec_BookText aB (ok_ hw) (r1 := (M.totE_small (n := 4194304) (by omega)))) <| Qa rfl <| zN <| Q9 0 rfl rfl ?_
 refine zp rfl (fun w hw => c_laws_toBook aB (ok_ hw) (r1 := (M.totE_small (n := 4194304) (by omega)))) ?_
 intro u6 x6 A7 c7 h7 bl7 bh7
 refine za zeh fun b8 => zw 0 rfl rfl rfl ?_
 refine zN <| Q9 0 rfl rfl ?_
 refine zv rfl (fun w hw => c_impl_BookText aB (ok_ hw) (ok_ hw) (r1 := (M.totE_small (n := 4194304) (by omega)))) <| Qa rfl <| zJ <| zS <| Qm rfl <| Qm rfl <| Qq (p_neqT und_9 rfl rfl) <| JL.nil ?_
 refine zi (fun h9 h9' => ?_) fun h9 h9' => ?_
 · exact absurd h9 (by simp)
 refine Js.skip <| Js.seq <| Js.seq ?_
 refine zdr [] ?_
 refine JH.q 0 rfl (L9 0 rfl rfl) ?_
 refine JH.q 1 rfl (L9 1 rfl rfl) ?_
 refine y1 2 ?_
 refine yp rfl rfl (fun w hw => c_laws_toBook aB (ok_ hw) (r1 := (M.totE_small (n := 4194304) (by omega)))) ?_
 intro u10 x10 A11 c11 h11 bl11 bh11
 refine y1 3 ?_
 refine yv rfl rfl (fun w hw => c_laws_eqBook aB aB (ok_ hw) (ok_ hw) (r1 := (M.totE_small (n := 4194304) (by omega))) (r3 := (M.totE_small (n := 4194304) (by omega)))) ?_
 refine JH.p 4 rfl (p_not rfl) ?_
 refine yd ?_
 refine zi (fun h12 h12' => ?_) fun h12 h12' => ?_
 · exact absurd h12 (by simp)
 refine Js.skip <| zS <| Qa rfl <| JL.nil ?_
 exact zr ((x4.trans x6).trans x10)
end Go.Proofs.YtjklnidbndopiaaGreatDoor

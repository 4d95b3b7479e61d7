/- The table of types of the program, and what the types of the model are. -/
import Derived.Test.YtinkeciedmjjmaaF12
import Derived.Test.YtinkeciedmjjmaaM6
import Derived.Test.YtinkeciedmjjmaaF11
import Derived.Test.YtinkeciedmjjmaaProg
set_option linter.unusedSimpArgs false
set_option linter.unusedVariables false
namespace Go.Proofs.Ytinkeciedmjjmaa
open Go.RowKit

theorem cellsOk_cons {w : World} {T : Ty} {Ts : List Ty} : ∀ {vs : List Value}, cellsOk w (T :: Ts) vs → ∃ x r, vs = x :: r ∧ T.ok w x ∧ cellsOk w Ts r
  | x :: r, h => ⟨x, r, rfl, h.1, h.2⟩
theorem cellsOk_nil {w : World} : ∀ {vs : List Value}, cellsOk w [] vs → vs = []
  | [], _ => rfl
theorem drop_flat {α β : Type} (f : α → List β) (k : Nat) (hf : ∀ a, (f a).length = k) : ∀ (l : List α) (i : Nat) (a : α), l[i]? = some a → ((l.flatMap f).drop (i * k)).take k = f a
  | x :: l, 0, a, h => by
    simp at h; subst h
    simp [List.flatMap_cons, hf, List.take_append]
  | x :: l, i + 1, a, h => by
    simp at h
    rw [List.flatMap_cons, Nat.succ_mul, Nat.add_comm, ← List.drop_drop, List.drop_left' (hf x)]
    exact drop_flat f k hf l i a h
  | [], _, _, h => by simp at h
theorem flat_len {α β : Type} (f : α → List β) (k : Nat) (hf : ∀ a, (f a).length = k) : ∀ (l : List α), (l.flatMap f).length = l.length * k
  | [] => by simp
  | x :: l => by rw [List.flatMap_cons, List.length_append, hf, flat_len f k hf l, List.length_cons, Nat.succ_mul, Nat.add_comm]

theorem ty_2 : tyOf Try.prog 2 = some (false, 1) := by kernel_rfl
theorem ty_4 : tyOf Try.prog 4 = some (false, 1) := by kernel_rfl
theorem ty_23 : tyOf Try.prog 23 = some (true, 9) := by kernel_rfl
theorem ty_24 : tyOf Try.prog 24 = some (false, 1) := by kernel_rfl
theorem ty_26 : tyOf Try.prog 26 = some (true, 3) := by kernel_rfl
theorem ty_31 : tyOf Try.prog 31 = some (true, 9) := by kernel_rfl
theorem ty_33 : tyOf Try.prog 33 = some (true, 3) := by kernel_rfl
theorem ty_45 : tyOf Try.prog 45 = some (true, 16) := by kernel_rfl
theorem ty_51 : tyOf Try.prog 51 = some (true, 16) := by kernel_rfl
theorem ty_62 : tyOf Try.prog 62 = some (false, 1) := by kernel_rfl
theorem ty_69 : tyOf Try.prog 69 = some (true, 2) := by kernel_rfl
theorem ty_74 : tyOf Try.prog 74 = some (true, 6) := by kernel_rfl
theorem ty_89 : tyOf Try.prog 89 = some (true, 2) := by kernel_rfl
theorem ty_98 : tyOf Try.prog 98 = some (true, 4) := by kernel_rfl
theorem ty_133 : tyOf Try.prog 133 = some (true, 15) := by kernel_rfl
theorem fld_23_0 : fldOf Try.prog 23 0 = some (0, 2, false, 1) := by kernel_rfl
theorem fld_23_1 : fldOf Try.prog 23 1 = some (1, 2, false, 1) := by kernel_rfl
theorem fld_23_2 : fldOf Try.prog 23 2 = some (2, 4, false, 1) := by kernel_rfl
theorem fld_23_3 : fldOf Try.prog 23 3 = some (3, 4, false, 1) := by kernel_rfl
theorem fld_23_4 : fldOf Try.prog 23 4 = some (4, 4, false, 1) := by kernel_rfl
theorem fld_23_5 : fldOf Try.prog 23 5 = some (5, 4, false, 1) := by kernel_rfl
theorem fld_23_6 : fldOf Try.prog 23 6 = some (6, 4, false, 1) := by kernel_rfl
theorem fld_23_7 : fldOf Try.prog 23 7 = some (7, 2, false, 1) := by kernel_rfl
theorem fld_23_8 : fldOf Try.prog 23 8 = some (8, 2, false, 1) := by kernel_rfl
theorem fld_26_0 : fldOf Try.prog 26 0 = some (0, 24, false, 1) := by kernel_rfl
theorem fld_26_1 : fldOf Try.prog 26 1 = some (1, 24, false, 1) := by kernel_rfl
theorem fld_26_2 : fldOf Try.prog 26 2 = some (2, 2, false, 1) := by kernel_rfl
theorem fld_31_0 : fldOf Try.prog 31 0 = some (0, 2, false, 1) := by kernel_rfl
theorem fld_31_1 : fldOf Try.prog 31 1 = some (1, 2, false, 1) := by kernel_rfl
theorem fld_31_2 : fldOf Try.prog 31 2 = some (2, 4, false, 1) := by kernel_rfl
theorem fld_31_3 : fldOf Try.prog 31 3 = some (3, 4, false, 1) := by kernel_rfl
theorem fld_31_4 : fldOf Try.prog 31 4 = some (4, 4, false, 1) := by kernel_rfl
theorem fld_31_5 : fldOf Try.prog 31 5 = some (5, 4, false, 1) := by kernel_rfl
theorem fld_31_6 : fldOf Try.prog 31 6 = some (6, 4, false, 1) := by kernel_rfl
theorem fld_31_7 : fldOf Try.prog 31 7 = some (7, 2, false, 1) := by kernel_rfl
theorem fld_31_8 : fldOf Try.prog 31 8 = some (8, 2, false, 1) := by kernel_rfl
theorem fld_33_0 : fldOf Try.prog 33 0 = some (0, 24, false, 1) := by kernel_rfl
theorem fld_33_1 : fldOf Try.prog 33 1 = some (1, 24, false, 1) := by kernel_rfl
theorem fld_33_2 : fldOf Try.prog 33 2 = some (2, 2, false, 1) := by kernel_rfl
theorem fld_45_0 : fldOf Try.prog 45 0 = some (0, 31, true, 9) := by kernel_rfl
theorem fld_45_1 : fldOf Try.prog 45 1 = some (9, 33, true, 3) := by kernel_rfl
theorem fld_45_2 : fldOf Try.prog 45 2 = some (12, 2, false, 1) := by kernel_rfl
theorem fld_45_3 : fldOf Try.prog 45 3 = some (13, 2, false, 1) := by kernel_rfl
theorem fld_45_4 : fldOf Try.prog 45 4 = some (14, 2, false, 1) := by kernel_rfl
theorem fld_45_5 : fldOf Try.prog 45 5 = some (15, 2, false, 1) := by kernel_rfl
theorem fld_51_0 : fldOf Try.prog 51 0 = some (0, 23, true, 9) := by kernel_rfl
theorem fld_51_1 : fldOf Try.prog 51 1 = some (9, 26, true, 3) := by kernel_rfl
theorem fld_51_2 : fldOf Try.prog 51 2 = some (12, 2, false, 1) := by kernel_rfl
theorem fld_51_3 : fldOf Try.prog 51 3 = some (13, 2, false, 1) := by kernel_rfl
theorem fld_51_4 : fldOf Try.prog 51 4 = some (14, 2, false, 1) := by kernel_rfl
theorem fld_51_5 : fldOf Try.prog 51 5 = some (15, 2, false, 1) := by kernel_rfl
theorem fld_69_0 : fldOf Try.prog 69 0 = some (0, 2, false, 1) := by kernel_rfl
theorem fld_69_1 : fldOf Try.prog 69 1 = some (1, 2, false, 1) := by kernel_rfl
theorem fld_74_0 : fldOf Try.prog 74 0 = some (0, 2, false, 1) := by kernel_rfl
theorem fld_74_1 : fldOf Try.prog 74 1 = some (1, 2, false, 1) := by kernel_rfl
theorem fld_74_2 : fldOf Try.prog 74 2 = some (2, 4, false, 1) := by kernel_rfl
theorem fld_74_3 : fldOf Try.prog 74 3 = some (3, 33, true, 3) := by kernel_rfl
theorem fld_89_0 : fldOf Try.prog 89 0 = some (0, 62, false, 1) := by kernel_rfl
theorem fld_89_1 : fldOf Try.prog 89 1 = some (1, 2, false, 1) := by kernel_rfl
theorem fld_98_0 : fldOf Try.prog 98 0 = some (0, 24, false, 1) := by kernel_rfl
theorem fld_98_1 : fldOf Try.prog 98 1 = some (1, 24, false, 1) := by kernel_rfl
theorem fld_98_2 : fldOf Try.prog 98 2 = some (2, 2, false, 1) := by kernel_rfl
theorem fld_98_3 : fldOf Try.prog 98 3 = some (3, 2, false, 1) := by kernel_rfl
theorem fld_133_0 : fldOf Try.prog 133 0 = some (0, 31, true, 9) := by kernel_rfl
theorem fld_133_1 : fldOf Try.prog 133 1 = some (9, 2, false, 1) := by kernel_rfl
theorem fld_133_2 : fldOf Try.prog 133 2 = some (10, 98, true, 4) := by kernel_rfl
theorem fld_133_3 : fldOf Try.prog 133 3 = some (14, 24, false, 1) := by kernel_rfl
theorem el_24 : elOf Try.prog 24 = some (2, 1, 8, [.int .i64 0]) := by kernel_rfl
theorem el_28 : elOf Try.prog 28 = some (69, 2, 16, [.int .i64 0, .int .i64 0]) := by kernel_rfl
theorem el_90 : elOf Try.prog 90 = some (74, 6, 80, [.int .i64 0, .int .i64 0, .bool false, .slice none 0 0, .slice none 0 0, .int .i64 0]) := by kernel_rfl
theorem zero_31 : zeroOf Try.prog 31 = some [.int .i64 0, .int .i64 0, .bool false, .bool false, .bool false, .bool false, .bool false, .int .i64 0, .int .i64 0] := by kernel_rfl
theorem zero_33 : zeroOf Try.prog 33 = some [.slice none 0 0, .slice none 0 0, .int .i64 0] := by kernel_rfl
theorem zero_45 : zeroOf Try.prog 45 = some [.int .i64 0, .int .i64 0, .bool false, .bool false, .bool false, .bool false, .bool false, .int .i64 0, .int .i64 0, .slice none 0 0, .slice none 0 0, .int .i64 0, .int .i64 0, .int .i64 0, .int .i64 0, .int .i64 0] := by kernel_rfl
theorem zero_69 : zeroOf Try.prog 69 = some [.int .i64 0, .int .i64 0] := by kernel_rfl
theorem zero_74 : zeroOf Try.prog 74 = some [.int .i64 0, .int .i64 0, .bool false, .slice none 0 0, .slice none 0 0, .int .i64 0] := by kernel_rfl
theorem zero_89 : zeroOf Try.prog 89 = some [.pointer none, .int .i64 0] := by kernel_rfl
theorem zero_98 : zeroOf Try.prog 98 = some [.slice none 0 0, .slice none 0 0, .int .i64 0, .int .i64 0] := by kernel_rfl
theorem zero_133 : zeroOf Try.prog 133 = some [.int .i64 0, .int .i64 0, .bool false, .bool false, .bool false, .bool false, .bool false, .int .i64 0, .int .i64 0, .int .i64 0, .slice none 0 0, .slice none 0 0, .int .i64 0, .int .i64 0, .slice none 0 0] := by kernel_rfl
theorem flds_33 : fldsOf Try.prog 33 = some [(0, 1), (1, 1), (2, 1)] := by kernel_rfl
theorem flds_45 : fldsOf Try.prog 45 = some [(0, 9), (9, 3), (12, 1), (13, 1), (14, 1), (15, 1)] := by kernel_rfl
theorem flds_69 : fldsOf Try.prog 69 = some [(0, 1), (1, 1)] := by kernel_rfl
theorem flds_74 : fldsOf Try.prog 74 = some [(0, 1), (1, 1), (2, 1), (3, 3)] := by kernel_rfl
theorem flds_89 : fldsOf Try.prog 89 = some [(0, 1), (1, 1)] := by kernel_rfl
theorem flds_98 : fldsOf Try.prog 98 = some [(0, 1), (1, 1), (2, 1), (3, 1)] := by kernel_rfl
theorem flds_133 : fldsOf Try.prog 133 = some [(0, 9), (9, 1), (10, 4), (14, 1)] := by kernel_rfl
theorem fn_10 : goodF Try.prog 10 = true := by kernel_rfl
theorem fn_11 : goodF Try.prog 11 = true := by kernel_rfl
theorem fn_12 : goodF Try.prog 12 = true := by kernel_rfl
theorem fn_13 : goodF Try.prog 13 = true := by kernel_rfl
theorem fn_14 : goodF Try.prog 14 = true := by kernel_rfl
theorem fn_15 : goodF Try.prog 15 = true := by kernel_rfl
theorem fn_16 : goodF Try.prog 16 = true := by kernel_rfl
theorem fn_17 : goodF Try.prog 17 = true := by kernel_rfl
theorem fn_18 : goodF Try.prog 18 = true := by kernel_rfl
theorem fn_19 : goodF Try.prog 19 = true := by kernel_rfl
theorem fn_20 : goodF Try.prog 20 = true := by kernel_rfl
theorem fn_21 : goodF Try.prog 21 = true := by kernel_rfl
theorem fn_22 : goodF Try.prog 22 = true := by kernel_rfl
theorem fn_23 : goodF Try.prog 23 = true := by kernel_rfl
theorem fn_24 : goodF Try.prog 24 = true := by kernel_rfl
theorem fn_25 : goodF Try.prog 25 = true := by kernel_rfl
theorem fn_26 : goodF Try.prog 26 = true := by kernel_rfl
theorem fn_27 : goodF Try.prog 27 = true := by kernel_rfl
theorem fn_28 : goodF Try.prog 28 = true := by kernel_rfl
theorem fn_29 : goodF Try.prog 29 = true := by kernel_rfl
theorem fn_30 : goodF Try.prog 30 = true := by kernel_rfl
theorem fn_31 : goodF Try.prog 31 = true := by kernel_rfl
theorem fn_32 : goodF Try.prog 32 = true := by kernel_rfl
theorem fn_33 : goodF Try.prog 33 = true := by kernel_rfl
theorem fn_34 : goodF Try.prog 34 = true := by kernel_rfl
theorem fn_35 : goodF Try.prog 35 = true := by kernel_rfl
theorem fn_36 : goodF Try.prog 36 = true := by kernel_rfl
theorem fn_37 : goodF Try.prog 37 = true := by kernel_rfl
theorem fn_38 : goodF Try.prog 38 = true := by kernel_rfl
theorem fn_39 : goodF Try.prog 39 = true := by kernel_rfl
theorem fn_40 : goodF Try.prog 40 = true := by kernel_rfl
theorem fn_41 : goodF Try.prog 41 = true := by kernel_rfl
theorem fn_42 : goodF Try.prog 42 = true := by kernel_rfl
theorem fn_43 : goodF Try.prog 43 = true := by kernel_rfl
theorem fn_44 : goodF Try.prog 44 = true := by kernel_rfl
theorem fn_45 : goodF Try.prog 45 = true := by kernel_rfl
theorem fn_46 : goodF Try.prog 46 = true := by kernel_rfl
theorem fn_47 : goodF Try.prog 47 = true := by kernel_rfl
theorem fn_48 : goodF Try.prog 48 = true := by kernel_rfl
theorem fn_49 : goodF Try.prog 49 = true := by kernel_rfl
theorem fn_50 : goodF Try.prog 50 = true := by kernel_rfl
theorem fn_51 : goodF Try.prog 51 = true := by kernel_rfl
theorem fn_52 : goodF Try.prog 52 = true := by kernel_rfl
theorem fn_53 : goodF Try.prog 53 = true := by kernel_rfl
theorem fn_54 : goodF Try.prog 54 = true := by kernel_rfl
theorem fn_55 : goodF Try.prog 55 = true := by kernel_rfl
theorem fn_56 : goodF Try.prog 56 = true := by kernel_rfl
theorem fn_57 : goodF Try.prog 57 = true := by kernel_rfl
theorem fn_58 : goodF Try.prog 58 = true := by kernel_rfl
theorem fn_59 : goodF Try.prog 59 = true := by kernel_rfl
theorem fn_60 : goodF Try.prog 60 = true := by kernel_rfl
theorem fn_61 : goodF Try.prog 61 = true := by kernel_rfl
theorem fn_62 : goodF Try.prog 62 = true := by kernel_rfl
theorem fn_63 : goodF Try.prog 63 = true := by kernel_rfl
theorem fn_64 : goodF Try.prog 64 = true := by kernel_rfl
theorem fn_65 : goodF Try.prog 65 = true := by kernel_rfl
theorem fn_66 : goodF Try.prog 66 = true := by kernel_rfl
theorem fn_67 : goodF Try.prog 67 = true := by kernel_rfl
theorem fn_68 : goodF Try.prog 68 = true := by kernel_rfl
theorem fn_69 : goodF Try.prog 69 = true := by kernel_rfl
theorem fn_70 : goodF Try.prog 70 = true := by kernel_rfl
theorem fn_71 : goodF Try.prog 71 = true := by kernel_rfl
theorem fn_72 : goodF Try.prog 72 = true := by kernel_rfl
theorem fn_73 : goodF Try.prog 73 = true := by kernel_rfl
theorem fn_74 : goodF Try.prog 74 = true := by kernel_rfl
theorem fn_75 : goodF Try.prog 75 = true := by kernel_rfl
theorem fn_76 : goodF Try.prog 76 = true := by kernel_rfl
theorem fn_77 : goodF Try.prog 77 = true := by kernel_rfl
theorem fn_78 : goodF Try.prog 78 = true := by kernel_rfl
theorem fn_79 : goodF Try.prog 79 = true := by kernel_rfl
theorem fn_80 : goodF Try.prog 80 = true := by kernel_rfl
theorem fn_81 : goodF Try.prog 81 = true := by kernel_rfl
theorem fn_82 : goodF Try.prog 82 = true := by kernel_rfl
theorem fn_83 : goodF Try.prog 83 = true := by kernel_rfl
theorem fn_84 : goodF Try.prog 84 = true := by kernel_rfl
theorem fn_85 : goodF Try.prog 85 = true := by kernel_rfl
theorem fn_86 : goodF Try.prog 86 = true := by kernel_rfl
theorem fn_87 : goodF Try.prog 87 = true := by kernel_rfl
theorem fn_88 : goodF Try.prog 88 = true := by kernel_rfl
theorem fn_89 : goodF Try.prog 89 = true := by kernel_rfl
theorem fn_90 : goodF Try.prog 90 = true := by kernel_rfl
theorem fn_91 : goodF Try.prog 91 = true := by kernel_rfl
theorem fn_92 : goodF Try.prog 92 = true := by kernel_rfl
theorem fn_93 : goodF Try.prog 93 = true := by kernel_rfl
theorem fn_94 : goodF Try.prog 94 = true := by kernel_rfl
theorem fn_95 : goodF Try.prog 95 = true := by kernel_rfl
theorem fn_96 : goodF Try.prog 96 = true := by kernel_rfl
theorem fn_97 : goodF Try.prog 97 = true := by kernel_rfl
theorem fn_98 : goodF Try.prog 98 = true := by kernel_rfl
theorem fn_99 : goodF Try.prog 99 = true := by kernel_rfl
theorem fn_100 : goodF Try.prog 100 = true := by kernel_rfl
theorem fn_101 : goodF Try.prog 101 = true := by kernel_rfl
theorem fn_102 : goodF Try.prog 102 = true := by kernel_rfl
theorem fn_103 : goodF Try.prog 103 = true := by kernel_rfl
theorem fn_104 : goodF Try.prog 104 = true := by kernel_rfl
theorem fn_105 : goodF Try.prog 105 = true := by kernel_rfl
theorem fn_106 : goodF Try.prog 106 = true := by kernel_rfl
theorem fn_107 : goodF Try.prog 107 = true := by kernel_rfl
theorem fn_108 : goodF Try.prog 108 = true := by kernel_rfl
theorem fn_109 : goodF Try.prog 109 = true := by kernel_rfl
theorem fn_110 : goodF Try.prog 110 = true := by kernel_rfl
theorem fn_111 : goodF Try.prog 111 = true := by kernel_rfl
theorem fn_112 : goodF Try.prog 112 = true := by kernel_rfl
theorem fn_113 : goodF Try.prog 113 = true := by kernel_rfl
theorem fn_114 : goodF Try.prog 114 = true := by kernel_rfl
theorem fn_115 : goodF Try.prog 115 = true := by kernel_rfl
theorem fn_116 : goodF Try.prog 116 = true := by kernel_rfl
theorem fn_117 : goodF Try.prog 117 = true := by kernel_rfl
theorem fn_118 : goodF Try.prog 118 = true := by kernel_rfl
theorem fn_119 : goodF Try.prog 119 = true := by kernel_rfl
theorem fn_120 : goodF Try.prog 120 = true := by kernel_rfl
theorem fn_121 : goodF Try.prog 121 = true := by kernel_rfl
theorem fn_122 : goodF Try.prog 122 = true := by kernel_rfl
theorem und_4 : Try.prog.underlying 4 = some (.bool) := @Try.underlying4
theorem und_9 : Try.prog.underlying 9 = some (.string) := @Try.underlying9
theorem und_10 : Try.prog.underlying 10 = some (.string) := @Try.underlying10
theorem und_11 : Try.prog.underlying 11 = some (.string) := @Try.underlying11
theorem und_24 : Try.prog.underlying 24 = some (.slice 2) := @Try.underlying24
theorem und_28 : Try.prog.underlying 28 = some (.slice 69) := @Try.underlying28
theorem und_90 : Try.prog.underlying 90 = some (.slice 74) := @Try.underlying90
theorem mixed_ : Try.prog.follows .mixedOrders = true := by kernel_rfl
def cRules (x : M.Rul) : List Ty := [Ty.int x.pits, Ty.int x.seeds, Ty.bool x.stores, Ty.bool x.skip, Ty.bool x.relay, Ty.bool x.feed, Ty.bool x.again, Ty.int x.capture, Ty.int x.slam]
theorem open_Rules {u : World} {v : Value} {x : M.Rul} (h : (Ty.agg (cRules x)).ok u v) : v = .agg #[.int .i64 x.pits, .int .i64 x.seeds, .bool x.stores, .bool x.skip, .bool x.relay, .bool x.feed, .bool x.again, .int .i64 x.capture, .int .i64 x.slam] := by
  obtain ⟨vs, rfl, h⟩ := h
  obtain ⟨x0, r, rfl, h0, h⟩ := cellsOk_cons h
  obtain ⟨x1, r, rfl, h1, h⟩ := cellsOk_cons h
  obtain ⟨x2, r, rfl, h2, h⟩ := cellsOk_cons h
  obtain ⟨x3, r, rfl, h3, h⟩ := cellsOk_cons h
  obtain ⟨x4, r, rfl, h4, h⟩ := cellsOk_cons h
  obtain ⟨x5, r, rfl, h5, h⟩ := cellsOk_cons h
  obtain ⟨x6, r, rfl, h6, h⟩ := cellsOk_cons h
  obtain ⟨x7, r, rfl, h7, h⟩ := cellsOk_cons h
  obtain ⟨x8, r, rfl, h8, h⟩ := cellsOk_cons h
  obtain rfl := cellsOk_nil h
  obtain rfl : x0 = .int .i64 x.pits := h0
  obtain rfl : x1 = .int .i64 x.seeds := h1
  obtain rfl : x2 = .bool x.stores := h2
  obtain rfl : x3 = .bool x.skip := h3
  obtain rfl : x4 = .bool x.relay := h4
  obtain rfl : x5 = .bool x.feed := h5
  obtain rfl : x6 = .bool x.again := h6
  obtain rfl : x7 = .int .i64 x.capture := h7
  obtain rfl : x8 = .int .i64 x.slam := h8
  exact rfl
theorem ref_Rules {u : World} {v : Value} {x : M.Rul} (h : (Ty.ref (cRules x)).ok u v) : ∃ b o, v = .pointer (some ⟨b, o, none⟩) ∧ RowAt u b o [.int .i64 x.pits, .int .i64 x.seeds, .bool x.stores, .bool x.skip, .bool x.relay, .bool x.feed, .bool x.again, .int .i64 x.capture, .int .i64 x.slam] := by
  obtain ⟨b, o, vs, rfl, h, hr⟩ := h
  obtain ⟨x0, r, rfl, h0, h⟩ := cellsOk_cons h
  obtain ⟨x1, r, rfl, h1, h⟩ := cellsOk_cons h
  obtain ⟨x2, r, rfl, h2, h⟩ := cellsOk_cons h
  obtain ⟨x3, r, rfl, h3, h⟩ := cellsOk_cons h
  obtain ⟨x4, r, rfl, h4, h⟩ := cellsOk_cons h
  obtain ⟨x5, r, rfl, h5, h⟩ := cellsOk_cons h
  obtain ⟨x6, r, rfl, h6, h⟩ := cellsOk_cons h
  obtain ⟨x7, r, rfl, h7, h⟩ := cellsOk_cons h
  obtain ⟨x8, r, rfl, h8, h⟩ := cellsOk_cons h
  obtain rfl := cellsOk_nil h
  obtain rfl : x0 = .int .i64 x.pits := h0
  obtain rfl : x1 = .int .i64 x.seeds := h1
  obtain rfl : x2 = .bool x.stores := h2
  obtain rfl : x3 = .bool x.skip := h3
  obtain rfl : x4 = .bool x.relay := h4
  obtain rfl : x5 = .bool x.feed := h5
  obtain rfl : x6 = .bool x.again := h6
  obtain rfl : x7 = .int .i64 x.capture := h7
  obtain rfl : x8 = .int .i64 x.slam := h8
  exact ⟨b, o, rfl, hr⟩
theorem own_Rules {u : World} {v : Value} {fp : List Nat} {x : M.Rul} (h : (Ty.agg (cRules x)).own u v fp) : v = .agg #[.int .i64 x.pits, .int .i64 x.seeds, .bool x.stores, .bool x.skip, .bool x.relay, .bool x.feed, .bool x.again, .int .i64 x.capture, .int .i64 x.slam] ∧ cellsOwn u (cRules x) [.int .i64 x.pits, .int .i64 x.seeds, .bool x.stores, .bool x.skip, .bool x.relay, .bool x.feed, .bool x.again, .int .i64 x.capture, .int .i64 x.slam] fp := by
  obtain ⟨vs, rfl, hc⟩ := h
  have h := hc.ok
  obtain ⟨x0, r, rfl, h0, h⟩ := cellsOk_cons h
  obtain ⟨x1, r, rfl, h1, h⟩ := cellsOk_cons h
  obtain ⟨x2, r, rfl, h2, h⟩ := cellsOk_cons h
  obtain ⟨x3, r, rfl, h3, h⟩ := cellsOk_cons h
  obtain ⟨x4, r, rfl, h4, h⟩ := cellsOk_cons h
  obtain ⟨x5, r, rfl, h5, h⟩ := cellsOk_cons h
  obtain ⟨x6, r, rfl, h6, h⟩ := cellsOk_cons h
  obtain ⟨x7, r, rfl, h7, h⟩ := cellsOk_cons h
  obtain ⟨x8, r, rfl, h8, h⟩ := cellsOk_cons h
  obtain rfl := cellsOk_nil h
  obtain rfl : x0 = .int .i64 x.pits := h0
  obtain rfl : x1 = .int .i64 x.seeds := h1
  obtain rfl : x2 = .bool x.stores := h2
  obtain rfl : x3 = .bool x.skip := h3
  obtain rfl : x4 = .bool x.relay := h4
  obtain rfl : x5 = .bool x.feed := h5
  obtain rfl : x6 = .bool x.again := h6
  obtain rfl : x7 = .int .i64 x.capture := h7
  obtain rfl : x8 = .int .i64 x.slam := h8
  exact ⟨rfl, hc⟩
theorem Spl_Rules (x : M.Rul) : Spl (Ty.agg (cRules x)) (fun v ow => ∃ f, v = .agg #[.int .i64 x.pits, .int .i64 x.seeds, .bool x.stores, .bool x.skip, .bool x.relay, .bool x.feed, .bool x.again, .int .i64 x.capture, .int .i64 x.slam] ∧ ow = [ownC (cRules x) [.int .i64 x.pits, .int .i64 x.seeds, .bool x.stores, .bool x.skip, .bool x.relay, .bool x.feed, .bool x.again, .int .i64 x.capture, .int .i64 x.slam] f]) := fun w v fp h => by
  obtain ⟨rfl, hc⟩ := own_Rules h
  exact ⟨_, ⟨fp, rfl, rfl⟩, by simp [ownC], fun o ho => by simp at ho; subst ho; exact hc⟩
def lRules (xs : List M.Rul) : List Ty := xs.flatMap cRules
theorem lRules_length (xs : List M.Rul) : (lRules xs).length = xs.length * 9 := flat_len cRules 9 (fun _ => rfl) xs
theorem elem_Rules {u : World} {e c i : Nat} {A : Option Addr} {xs : List M.Rul} {x : M.Rul} (h : (Ty.sl e 9 xs.length (lRules xs)).ok u (.slice A xs.length c)) (hi : xs[i]? = some x) : ∃ b o, elemA 9 (.slice A xs.length c) i = some ⟨b, o, none⟩ ∧ RowAt u b o [.int .i64 x.pits, .int .i64 x.seeds, .bool x.stores, .bool x.skip, .bool x.relay, .bool x.feed, .bool x.again, .int .i64 x.capture, .int .i64 x.slam] := by
  obtain ⟨b, o, vs, he, h, hr⟩ := sl_elem h (List.getElem?_eq_some_iff.1 hi).1 rfl
  have e := drop_flat cRules 9 (fun _ => rfl) xs i x hi
  unfold lRules at h
  rw [e] at h
  obtain ⟨x0, r, rfl, h0, h⟩ := cellsOk_cons h
  obtain ⟨x1, r, rfl, h1, h⟩ := cellsOk_cons h
  obtain ⟨x2, r, rfl, h2, h⟩ := cellsOk_cons h
  obtain ⟨x3, r, rfl, h3, h⟩ := cellsOk_cons h
  obtain ⟨x4, r, rfl, h4, h⟩ := cellsOk_cons h
  obtain ⟨x5, r, rfl, h5, h⟩ := cellsOk_cons h
  obtain ⟨x6, r, rfl, h6, h⟩ := cellsOk_cons h
  obtain ⟨x7, r, rfl, h7, h⟩ := cellsOk_cons h
  obtain ⟨x8, r, rfl, h8, h⟩ := cellsOk_cons h
  obtain rfl := cellsOk_nil h
  obtain rfl : x0 = .int .i64 x.pits := h0
  obtain rfl : x1 = .int .i64 x.seeds := h1
  obtain rfl : x2 = .bool x.stores := h2
  obtain rfl : x3 = .bool x.skip := h3
  obtain rfl : x4 = .bool x.relay := h4
  obtain rfl : x5 = .bool x.feed := h5
  obtain rfl : x6 = .bool x.again := h6
  obtain rfl : x7 = .int .i64 x.capture := h7
  obtain rfl : x8 = .int .i64 x.slam := h8
  exact ⟨b, o, he, hr⟩
theorem elemv_Rules {w : World} {i : Nat} {xs : List M.Rul} {x : M.Rul} {vs : List Value} (h : cellsOk w (lRules xs) vs) (hi : xs[i]? = some x) : (vs.drop (0 + i * 9)).take 9 = [.int .i64 x.pits, .int .i64 x.seeds, .bool x.stores, .bool x.skip, .bool x.relay, .bool x.feed, .bool x.again, .int .i64 x.capture, .int .i64 x.slam] := by
  rw [Nat.zero_add]
  have h := cellsOk.take 9 (cellsOk.drop (i * 9) h)
  rw [lRules, drop_flat cRules 9 (fun _ => rfl) xs i x hi] at h
  generalize (vs.drop (i * 9)).take 9 = vs at h ⊢
  obtain ⟨x0, r, rfl, h0, h⟩ := cellsOk_cons h
  obtain ⟨x1, r, rfl, h1, h⟩ := cellsOk_cons h
  obtain ⟨x2, r, rfl, h2, h⟩ := cellsOk_cons h
  obtain ⟨x3, r, rfl, h3, h⟩ := cellsOk_cons h
  obtain ⟨x4, r, rfl, h4, h⟩ := cellsOk_cons h
  obtain ⟨x5, r, rfl, h5, h⟩ := cellsOk_cons h
  obtain ⟨x6, r, rfl, h6, h⟩ := cellsOk_cons h
  obtain ⟨x7, r, rfl, h7, h⟩ := cellsOk_cons h
  obtain ⟨x8, r, rfl, h8, h⟩ := cellsOk_cons h
  obtain rfl := cellsOk_nil h
  obtain rfl : x0 = .int .i64 x.pits := h0
  obtain rfl : x1 = .int .i64 x.seeds := h1
  obtain rfl : x2 = .bool x.stores := h2
  obtain rfl : x3 = .bool x.skip := h3
  obtain rfl : x4 = .bool x.relay := h4
  obtain rfl : x5 = .bool x.feed := h5
  obtain rfl : x6 = .bool x.again := h6
  obtain rfl : x7 = .int .i64 x.capture := h7
  obtain rfl : x8 = .int .i64 x.slam := h8
  exact rfl
theorem lRules_snoc (xs : List M.Rul) (x : M.Rul) : lRules xs ++ cRules x = lRules (xs ++ [x]) := by simp [lRules]
theorem lRules_cut {u : World} {e c a b m : Nat} {A : Option Addr} {xs : List M.Rul} (h : (Ty.sl e 9 xs.length (lRules xs)).ok u (.slice A xs.length c)) (h1 : a ≤ b) (h2 : b ≤ xs.length) (h3 : b ≤ m) (h4 : m ≤ c) (hl : ((xs.drop a).take (b - a)).length = b - a) : (Ty.sl e 9 ((xs.drop a).take (b - a)).length (lRules ((xs.drop a).take (b - a)))).ok u (.slice (cutA 9 A a m) ((xs.drop a).take (b - a)).length (m - a)) := by
  have := sl_cut h h1 h2 h3 h4
  unfold lRules at this ⊢
  rw [flat_cut cRules 9 (fun _ => rfl)] at this
  rw [hl]; exact this
set_option maxRecDepth 100000 in
theorem eqs_Rules (a b : M.Rul) (w : World) : (Op.equalIn 10000 31 (.agg #[.int .i64 a.pits, .int .i64 a.seeds, .bool a.stores, .bool a.skip, .bool a.relay, .bool a.feed, .bool a.again, .int .i64 a.capture, .int .i64 a.slam]) (.agg #[.int .i64 b.pits, .int .i64 b.seeds, .bool b.stores, .bool b.skip, .bool b.relay, .bool b.feed, .bool b.again, .int .i64 b.capture, .int .i64 b.slam])).run Try.prog w = .ok (decide (a = b)) w := by
  have u2 := Try.underlying2
  have u4 := Try.underlying4
  have i2 := run_equalIn_int (P := Try.prog) (d := 9998) (t := 2) (k := .i64) (k' := .i64) (h := u2)
  have i4 := run_equalIn_bool (P := Try.prog) 9998 (t := 4) u4
  rw [show (10000 : Nat) = 9999 + 1 from rfl, run_equalIn_agg w 9999 31 _ _ (by kernel_rfl) (by kernel_rfl)]
  simp only [Program.fieldsOf, Try.underlying31]
  go_simp
  by_cases h : a = b
  · subst h; simp
  rw [decide_eq_false h]
  by_cases h0 : a.pits = b.pits
  case neg => rw [if_neg h0]
  rw [if_pos h0]
  by_cases h1 : a.seeds = b.seeds
  case neg => rw [if_neg h1]
  rw [if_pos h1]
  by_cases h2 : a.stores = b.stores
  case neg => rw [if_neg h2]
  rw [if_pos h2]
  by_cases h3 : a.skip = b.skip
  case neg => rw [if_neg h3]
  rw [if_pos h3]
  by_cases h4 : a.relay = b.relay
  case neg => rw [if_neg h4]
  rw [if_pos h4]
  by_cases h5 : a.feed = b.feed
  case neg => rw [if_neg h5]
  rw [if_pos h5]
  by_cases h6 : a.again = b.again
  case neg => rw [if_neg h6]
  rw [if_pos h6]
  by_cases h7 : a.capture = b.capture
  case neg => rw [if_neg h7]
  rw [if_pos h7]
  by_cases h8 : a.slam = b.slam
  case neg => rw [if_neg h8]
  rw [if_pos h8]
  exact absurd (by cases a; cases b; simp_all) h
theorem reval_Rules {w : World} {x y : M.Rul} {a0 : Int} {a1 : Int} {a2 : Bool} {a3 : Bool} {a4 : Bool} {a5 : Bool} {a6 : Bool} {a7 : Int} {a8 : Int} {f : List Nat} (h : cellsOwn w (cRules x) [.int .i64 a0, .int .i64 a1, .bool a2, .bool a3, .bool a4, .bool a5, .bool a6, .int .i64 a7, .int .i64 a8] f) : cellsOwn w (cRules y) [.int .i64 y.pits, .int .i64 y.seeds, .bool y.stores, .bool y.skip, .bool y.relay, .bool y.feed, .bool y.again, .int .i64 y.capture, .int .i64 y.slam] f := by
  obtain ⟨g0, r0, rfl, h0, h⟩ := h
  obtain ⟨g1, r1, rfl, h1, h⟩ := h
  obtain ⟨g2, r2, rfl, h2, h⟩ := h
  obtain ⟨g3, r3, rfl, h3, h⟩ := h
  obtain ⟨g4, r4, rfl, h4, h⟩ := h
  obtain ⟨g5, r5, rfl, h5, h⟩ := h
  obtain ⟨g6, r6, rfl, h6, h⟩ := h
  obtain ⟨g7, r7, rfl, h7, h⟩ := h
  obtain ⟨g8, r8, rfl, h8, h⟩ := h
  obtain rfl : _ = [] := h
  obtain ⟨_, rfl⟩ := h0
  obtain ⟨_, rfl⟩ := h1
  obtain ⟨_, rfl⟩ := h2
  obtain ⟨_, rfl⟩ := h3
  obtain ⟨_, rfl⟩ := h4
  obtain ⟨_, rfl⟩ := h5
  obtain ⟨_, rfl⟩ := h6
  obtain ⟨_, rfl⟩ := h7
  obtain ⟨_, rfl⟩ := h8
  exact ⟨[], [], rfl, ⟨rfl, rfl⟩, ⟨[], [], rfl, ⟨rfl, rfl⟩, ⟨[], [], rfl, ⟨rfl, rfl⟩, ⟨[], [], rfl, ⟨rfl, rfl⟩, ⟨[], [], rfl, ⟨rfl, rfl⟩, ⟨[], [], rfl, ⟨rfl, rfl⟩, ⟨[], [], rfl, ⟨rfl, rfl⟩, ⟨[], [], rfl, ⟨rfl, rfl⟩, ⟨[], [], rfl, ⟨rfl, rfl⟩, rfl⟩⟩⟩⟩⟩⟩⟩⟩⟩
def cPosition (x : M.Pos) : List Ty := [Ty.ints 2 x.pits, Ty.ints 2 x.stores, Ty.int x.player]
theorem open_Position {u : World} {v : Value} {x : M.Pos} (h : (Ty.agg (cPosition x)).ok u v) : ∃ A0 c0 A1 c1, v = .agg #[.slice A0 x.pits.length c0, .slice A1 x.stores.length c1, .int .i64 x.player] ∧ (Ty.ints 2 x.pits).ok u (.slice A0 x.pits.length c0) ∧ (Ty.ints 2 x.stores).ok u (.slice A1 x.stores.length c1) ∧ x.pits.length ≤ c0 ∧ c0 ≤ 9223372036854775807 ∧ x.stores.length ≤ c1 ∧ c1 ≤ 9223372036854775807 := by
  obtain ⟨vs, rfl, h⟩ := h
  obtain ⟨x0, r, rfl, h0, h⟩ := cellsOk_cons h
  obtain ⟨x1, r, rfl, h1, h⟩ := cellsOk_cons h
  obtain ⟨x2, r, rfl, h2, h⟩ := cellsOk_cons h
  obtain rfl := cellsOk_nil h
  obtain ⟨A0, c0, rfl, b0, d0⟩ := sl_form h0
  obtain ⟨A1, c1, rfl, b1, d1⟩ := sl_form h1
  obtain rfl : x2 = .int .i64 x.player := h2
  exact ⟨A0, c0, A1, c1, rfl, h0, h1, b0, d0, b1, d1⟩
theorem ref_Position {u : World} {v : Value} {x : M.Pos} (h : (Ty.ref (cPosition x)).ok u v) : ∃ b o A0 c0 A1 c1, v = .pointer (some ⟨b, o, none⟩) ∧ RowAt u b o [.slice A0 x.pits.length c0, .slice A1 x.stores.length c1, .int .i64 x.player] ∧ (Ty.ints 2 x.pits).ok u (.slice A0 x.pits.length c0) ∧ (Ty.ints 2 x.stores).ok u (.slice A1 x.stores.length c1) ∧ x.pits.length ≤ c0 ∧ c0 ≤ 9223372036854775807 ∧ x.stores.length ≤ c1 ∧ c1 ≤ 9223372036854775807 := by
  obtain ⟨b, o, vs, rfl, h, hr⟩ := h
  obtain ⟨x0, r, rfl, h0, h⟩ := cellsOk_cons h
  obtain ⟨x1, r, rfl, h1, h⟩ := cellsOk_cons h
  obtain ⟨x2, r, rfl, h2, h⟩ := cellsOk_cons h
  obtain rfl := cellsOk_nil h
  obtain ⟨A0, c0, rfl, b0, d0⟩ := sl_form h0
  obtain ⟨A1, c1, rfl, b1, d1⟩ := sl_form h1
  obtain rfl : x2 = .int .i64 x.player := h2
  exact ⟨b, o, A0, c0, A1, c1, rfl, hr, h0, h1, b0, d0, b1, d1⟩
theorem own_Position {u : World} {v : Value} {fp : List Nat} {x : M.Pos} (h : (Ty.agg (cPosition x)).own u v fp) : ∃ A0 c0 A1 c1, v = .agg #[.slice A0 x.pits.length c0, .slice A1 x.stores.length c1, .int .i64 x.player] ∧ cellsOwn u (cPosition x) [.slice A0 x.pits.length c0, .slice A1 x.stores.length c1, .int .i64 x.player] fp ∧ x.pits.length ≤ c0 ∧ c0 ≤ 9223372036854775807 ∧ x.stores.length ≤ c1 ∧ c1 ≤ 9223372036854775807 := by
  obtain ⟨vs, rfl, hc⟩ := h
  have h := hc.ok
  obtain ⟨x0, r, rfl, h0, h⟩ := cellsOk_cons h
  obtain ⟨x1, r, rfl, h1, h⟩ := cellsOk_cons h
  obtain ⟨x2, r, rfl, h2, h⟩ := cellsOk_cons h
  obtain rfl := cellsOk_nil h
  obtain ⟨A0, c0, rfl, b0, d0⟩ := sl_form h0
  obtain ⟨A1, c1, rfl, b1, d1⟩ := sl_form h1
  obtain rfl : x2 = .int .i64 x.player := h2
  exact ⟨A0, c0, A1, c1, rfl, hc, b0, d0, b1, d1⟩
theorem Spl_Position (x : M.Pos) : Spl (Ty.agg (cPosition x)) (fun v ow => ∃ A0 c0 A1 c1 f, v = .agg #[.slice A0 x.pits.length c0, .slice A1 x.stores.length c1, .int .i64 x.player] ∧ ow = [ownC (cPosition x) [.slice A0 x.pits.length c0, .slice A1 x.stores.length c1, .int .i64 x.player] f] ∧ x.pits.length ≤ c0 ∧ c0 ≤ 9223372036854775807 ∧ x.stores.length ≤ c1 ∧ c1 ≤ 9223372036854775807) := fun w v fp h => by
  obtain ⟨A0, c0, A1, c1, rfl, hc, b0, d0, b1, d1⟩ := own_Position h
  exact ⟨_, ⟨A0, c0, A1, c1, fp, rfl, rfl, b0, d0, b1, d1⟩, by simp [ownC], fun o ho => by simp at ho; subst ho; exact hc⟩
def lPosition (xs : List M.Pos) : List Ty := xs.flatMap cPosition
theorem lPosition_length (xs : List M.Pos) : (lPosition xs).length = xs.length * 3 := flat_len cPosition 3 (fun _ => rfl) xs
theorem elem_Position {u : World} {e c i : Nat} {A : Option Addr} {xs : List M.Pos} {x : M.Pos} (h : (Ty.sl e 3 xs.length (lPosition xs)).ok u (.slice A xs.length c)) (hi : xs[i]? = some x) : ∃ b o A0 c0 A1 c1, elemA 3 (.slice A xs.length c) i = some ⟨b, o, none⟩ ∧ RowAt u b o [.slice A0 x.pits.length c0, .slice A1 x.stores.length c1, .int .i64 x.player] ∧ (Ty.ints 2 x.pits).ok u (.slice A0 x.pits.length c0) ∧ (Ty.ints 2 x.stores).ok u (.slice A1 x.stores.length c1) ∧ x.pits.length ≤ c0 ∧ c0 ≤ 9223372036854775807 ∧ x.stores.length ≤ c1 ∧ c1 ≤ 9223372036854775807 := by
  obtain ⟨b, o, vs, he, h, hr⟩ := sl_elem h (List.getElem?_eq_some_iff.1 hi).1 rfl
  have e := drop_flat cPosition 3 (fun _ => rfl) xs i x hi
  unfold lPosition at h
  rw [e] at h
  obtain ⟨x0, r, rfl, h0, h⟩ := cellsOk_cons h
  obtain ⟨x1, r, rfl, h1, h⟩ := cellsOk_cons h
  obtain ⟨x2, r, rfl, h2, h⟩ := cellsOk_cons h
  obtain rfl := cellsOk_nil h
  obtain ⟨A0, c0, rfl, b0, d0⟩ := sl_form h0
  obtain ⟨A1, c1, rfl, b1, d1⟩ := sl_form h1
  obtain rfl : x2 = .int .i64 x.player := h2
  exact ⟨b, o, A0, c0, A1, c1, he, hr, h0, h1, b0, d0, b1, d1⟩
theorem elemv_Position {w : World} {i : Nat} {xs : List M.Pos} {x : M.Pos} {vs : List Value} (h : cellsOk w (lPosition xs) vs) (hi : xs[i]? = some x) : ∃ A0 c0 A1 c1, (vs.drop (0 + i * 3)).take 3 = [.slice A0 x.pits.length c0, .slice A1 x.stores.length c1, .int .i64 x.player] ∧ x.pits.length ≤ c0 ∧ c0 ≤ 9223372036854775807 ∧ x.stores.length ≤ c1 ∧ c1 ≤ 9223372036854775807 := by
  rw [Nat.zero_add]
  have h := cellsOk.take 3 (cellsOk.drop (i * 3) h)
  rw [lPosition, drop_flat cPosition 3 (fun _ => rfl) xs i x hi] at h
  generalize (vs.drop (i * 3)).take 3 = vs at h ⊢
  obtain ⟨x0, r, rfl, h0, h⟩ := cellsOk_cons h
  obtain ⟨x1, r, rfl, h1, h⟩ := cellsOk_cons h
  obtain ⟨x2, r, rfl, h2, h⟩ := cellsOk_cons h
  obtain rfl := cellsOk_nil h
  obtain ⟨A0, c0, rfl, b0, d0⟩ := sl_form h0
  obtain ⟨A1, c1, rfl, b1, d1⟩ := sl_form h1
  obtain rfl : x2 = .int .i64 x.player := h2
  exact ⟨A0, c0, A1, c1, rfl, b0, d0, b1, d1⟩
theorem lPosition_snoc (xs : List M.Pos) (x : M.Pos) : lPosition xs ++ cPosition x = lPosition (xs ++ [x]) := by simp [lPosition]
theorem lPosition_cut {u : World} {e c a b m : Nat} {A : Option Addr} {xs : List M.Pos} (h : (Ty.sl e 3 xs.length (lPosition xs)).ok u (.slice A xs.length c)) (h1 : a ≤ b) (h2 : b ≤ xs.length) (h3 : b ≤ m) (h4 : m ≤ c) (hl : ((xs.drop a).take (b - a)).length = b - a) : (Ty.sl e 3 ((xs.drop a).take (b - a)).length (lPosition ((xs.drop a).take (b - a)))).ok u (.slice (cutA 3 A a m) ((xs.drop a).take (b - a)).length (m - a)) := by
  have := sl_cut h h1 h2 h3 h4
  unfold lPosition at this ⊢
  rw [flat_cut cPosition 3 (fun _ => rfl)] at this
  rw [hl]; exact this
theorem pack_Position {w : World} {x : M.Pos} {v1 v2 : Value} {f1 f2 : List Nat} (h1 : (Ty.ints 2 x.pits).own w v1 f1) (h2 : (Ty.ints 2 x.stores).own w v2 f2) : cellsOwn w (cPosition x) [v1, v2, .int .i64 x.player] (f1 ++ f2) :=
  ⟨f1, f2, rfl, h1, ⟨f2, [], (List.append_nil _).symm, h2, ⟨[], [], rfl, ⟨rfl, rfl⟩, rfl⟩⟩⟩
theorem unpack_Position {w : World} {x : M.Pos} {A0 A1 : Option Addr} {m0 m1 c0 c1 : Nat} {f : List Nat} (h : cellsOwn w (cPosition x) [.slice A0 m0 c0, .slice A1 m1 c1, .int .i64 x.player] f) : (rowO 2 1 (.slice A0 m0 c0) m0 (ints_ x.pits) []).pr w ∧ (rowO 2 1 (.slice A1 m1 c1) m1 (ints_ x.stores) []).pr w ∧ f = (rowO 2 1 (.slice A0 m0 c0) m0 (ints_ x.pits) []).fp ++ (rowO 2 1 (.slice A1 m1 c1) m1 (ints_ x.stores) []).fp := by
  obtain ⟨g0, r0, rfl, h0, h⟩ := h
  obtain ⟨g1, r1, rfl, h1, h⟩ := h
  obtain ⟨g2, r2, rfl, h2, h⟩ := h
  obtain rfl : _ = [] := h
  obtain ⟨_, rfl⟩ := h2
  have a := ints_open h0
  have b := ints_open h1
  exact ⟨a.1, b.1, by rw [← a.2, ← b.2]; simp⟩
def cSown (x : M.Sw) : List Ty := [Ty.ints 2 x.pits, Ty.ints 2 x.stores, Ty.int x.last, Ty.int x.laps]
theorem open_Sown {u : World} {v : Value} {x : M.Sw} (h : (Ty.agg (cSown x)).ok u v) : ∃ A0 c0 A1 c1, v = .agg #[.slice A0 x.pits.length c0, .slice A1 x.stores.length c1, .int .i64 x.last, .int .i64 x.laps] ∧ (Ty.ints 2 x.pits).ok u (.slice A0 x.pits.length c0) ∧ (Ty.ints 2 x.stores).ok u (.slice A1 x.stores.length c1) ∧ x.pits.length ≤ c0 ∧ c0 ≤ 9223372036854775807 ∧ x.stores.length ≤ c1 ∧ c1 ≤ 9223372036854775807 := by
  obtain ⟨vs, rfl, h⟩ := h
  obtain ⟨x0, r, rfl, h0, h⟩ := cellsOk_cons h
  obtain ⟨x1, r, rfl, h1, h⟩ := cellsOk_cons h
  obtain ⟨x2, r, rfl, h2, h⟩ := cellsOk_cons h
  obtain ⟨x3, r, rfl, h3, h⟩ := cellsOk_cons h
  obtain rfl := cellsOk_nil h
  obtain ⟨A0, c0, rfl, b0, d0⟩ := sl_form h0
  obtain ⟨A1, c1, rfl, b1, d1⟩ := sl_form h1
  obtain rfl : x2 = .int .i64 x.last := h2
  obtain rfl : x3 = .int .i64 x.laps := h3
  exact ⟨A0, c0, A1, c1, rfl, h0, h1, b0, d0, b1, d1⟩
theorem ref_Sown {u : World} {v : Value} {x : M.Sw} (h : (Ty.ref (cSown x)).ok u v) : ∃ b o A0 c0 A1 c1, v = .pointer (some ⟨b, o, none⟩) ∧ RowAt u b o [.slice A0 x.pits.length c0, .slice A1 x.stores.length c1, .int .i64 x.last, .int .i64 x.laps] ∧ (Ty.ints 2 x.pits).ok u (.slice A0 x.pits.length c0) ∧ (Ty.ints 2 x.stores).ok u (.slice A1 x.stores.length c1) ∧ x.pits.length ≤ c0 ∧ c0 ≤ 9223372036854775807 ∧ x.stores.length ≤ c1 ∧ c1 ≤ 9223372036854775807 := by
  obtain ⟨b, o, vs, rfl, h, hr⟩ := h
  obtain ⟨x0, r, rfl, h0, h⟩ := cellsOk_cons h
  obtain ⟨x1, r, rfl, h1, h⟩ := cellsOk_cons h
  obtain ⟨x2, r, rfl, h2, h⟩ := cellsOk_cons h
  obtain ⟨x3, r, rfl, h3, h⟩ := cellsOk_cons h
  obtain rfl := cellsOk_nil h
  obtain ⟨A0, c0, rfl, b0, d0⟩ := sl_form h0
  obtain ⟨A1, c1, rfl, b1, d1⟩ := sl_form h1
  obtain rfl : x2 = .int .i64 x.last := h2
  obtain rfl : x3 = .int .i64 x.laps := h3
  exact ⟨b, o, A0, c0, A1, c1, rfl, hr, h0, h1, b0, d0, b1, d1⟩
theorem own_Sown {u : World} {v : Value} {fp : List Nat} {x : M.Sw} (h : (Ty.agg (cSown x)).own u v fp) : ∃ A0 c0 A1 c1, v = .agg #[.slice A0 x.pits.length c0, .slice A1 x.stores.length c1, .int .i64 x.last, .int .i64 x.laps] ∧ cellsOwn u (cSown x) [.slice A0 x.pits.length c0, .slice A1 x.stores.length c1, .int .i64 x.last, .int .i64 x.laps] fp ∧ x.pits.length ≤ c0 ∧ c0 ≤ 9223372036854775807 ∧ x.stores.length ≤ c1 ∧ c1 ≤ 9223372036854775807 := by
  obtain ⟨vs, rfl, hc⟩ := h
  have h := hc.ok
  obtain ⟨x0, r, rfl, h0, h⟩ := cellsOk_cons h
  obtain ⟨x1, r, rfl, h1, h⟩ := cellsOk_cons h
  obtain ⟨x2, r, rfl, h2, h⟩ := cellsOk_cons h
  obtain ⟨x3, r, rfl, h3, h⟩ := cellsOk_cons h
  obtain rfl := cellsOk_nil h
  obtain ⟨A0, c0, rfl, b0, d0⟩ := sl_form h0
  obtain ⟨A1, c1, rfl, b1, d1⟩ := sl_form h1
  obtain rfl : x2 = .int .i64 x.last := h2
  obtain rfl : x3 = .int .i64 x.laps := h3
  exact ⟨A0, c0, A1, c1, rfl, hc, b0, d0, b1, d1⟩
theorem Spl_Sown (x : M.Sw) : Spl (Ty.agg (cSown x)) (fun v ow => ∃ A0 c0 A1 c1 f, v = .agg #[.slice A0 x.pits.length c0, .slice A1 x.stores.length c1, .int .i64 x.last, .int .i64 x.laps] ∧ ow = [ownC (cSown x) [.slice A0 x.pits.length c0, .slice A1 x.stores.length c1, .int .i64 x.last, .int .i64 x.laps] f] ∧ x.pits.length ≤ c0 ∧ c0 ≤ 9223372036854775807 ∧ x.stores.length ≤ c1 ∧ c1 ≤ 9223372036854775807) := fun w v fp h => by
  obtain ⟨A0, c0, A1, c1, rfl, hc, b0, d0, b1, d1⟩ := own_Sown h
  exact ⟨_, ⟨A0, c0, A1, c1, fp, rfl, rfl, b0, d0, b1, d1⟩, by simp [ownC], fun o ho => by simp at ho; subst ho; exact hc⟩
def lSown (xs : List M.Sw) : List Ty := xs.flatMap cSown
theorem lSown_length (xs : List M.Sw) : (lSown xs).length = xs.length * 4 := flat_len cSown 4 (fun _ => rfl) xs
theorem elem_Sown {u : World} {e c i : Nat} {A : Option Addr} {xs : List M.Sw} {x : M.Sw} (h : (Ty.sl e 4 xs.length (lSown xs)).ok u (.slice A xs.length c)) (hi : xs[i]? = some x) : ∃ b o A0 c0 A1 c1, elemA 4 (.slice A xs.length c) i = some ⟨b, o, none⟩ ∧ RowAt u b o [.slice A0 x.pits.length c0, .slice A1 x.stores.length c1, .int .i64 x.last, .int .i64 x.laps] ∧ (Ty.ints 2 x.pits).ok u (.slice A0 x.pits.length c0) ∧ (Ty.ints 2 x.stores).ok u (.slice A1 x.stores.length c1) ∧ x.pits.length ≤ c0 ∧ c0 ≤ 9223372036854775807 ∧ x.stores.length ≤ c1 ∧ c1 ≤ 9223372036854775807 := by
  obtain ⟨b, o, vs, he, h, hr⟩ := sl_elem h (List.getElem?_eq_some_iff.1 hi).1 rfl
  have e := drop_flat cSown 4 (fun _ => rfl) xs i x hi
  unfold lSown at h
  rw [e] at h
  obtain ⟨x0, r, rfl, h0, h⟩ := cellsOk_cons h
  obtain ⟨x1, r, rfl, h1, h⟩ := cellsOk_cons h
  obtain ⟨x2, r, rfl, h2, h⟩ := cellsOk_cons h
  obtain ⟨x3, r, rfl, h3, h⟩ := cellsOk_cons h
  obtain rfl := cellsOk_nil h
  obtain ⟨A0, c0, rfl, b0, d0⟩ := sl_form h0
  obtain ⟨A1, c1, rfl, b1, d1⟩ := sl_form h1
  obtain rfl : x2 = .int .i64 x.last := h2
  obtain rfl : x3 = .int .i64 x.laps := h3
  exact ⟨b, o, A0, c0, A1, c1, he, hr, h0, h1, b0, d0, b1, d1⟩
theorem elemv_Sown {w : World} {i : Nat} {xs : List M.Sw} {x : M.Sw} {vs : List Value} (h : cellsOk w (lSown xs) vs) (hi : xs[i]? = some x) : ∃ A0 c0 A1 c1, (vs.drop (0 + i * 4)).take 4 = [.slice A0 x.pits.length c0, .slice A1 x.stores.length c1, .int .i64 x.last, .int .i64 x.laps] ∧ x.pits.length ≤ c0 ∧ c0 ≤ 9223372036854775807 ∧ x.stores.length ≤ c1 ∧ c1 ≤ 9223372036854775807 := by
  rw [Nat.zero_add]
  have h := cellsOk.take 4 (cellsOk.drop (i * 4) h)
  rw [lSown, drop_flat cSown 4 (fun _ => rfl) xs i x hi] at h
  generalize (vs.drop (i * 4)).take 4 = vs at h ⊢
  obtain ⟨x0, r, rfl, h0, h⟩ := cellsOk_cons h
  obtain ⟨x1, r, rfl, h1, h⟩ := cellsOk_cons h
  obtain ⟨x2, r, rfl, h2, h⟩ := cellsOk_cons h
  obtain ⟨x3, r, rfl, h3, h⟩ := cellsOk_cons h
  obtain rfl := cellsOk_nil h
  obtain ⟨A0, c0, rfl, b0, d0⟩ := sl_form h0
  obtain ⟨A1, c1, rfl, b1, d1⟩ := sl_form h1
  obtain rfl : x2 = .int .i64 x.last := h2
  obtain rfl : x3 = .int .i64 x.laps := h3
  exact ⟨A0, c0, A1, c1, rfl, b0, d0, b1, d1⟩
theorem lSown_snoc (xs : List M.Sw) (x : M.Sw) : lSown xs ++ cSown x = lSown (xs ++ [x]) := by simp [lSown]
theorem lSown_cut {u : World} {e c a b m : Nat} {A : Option Addr} {xs : List M.Sw} (h : (Ty.sl e 4 xs.length (lSown xs)).ok u (.slice A xs.length c)) (h1 : a ≤ b) (h2 : b ≤ xs.length) (h3 : b ≤ m) (h4 : m ≤ c) (hl : ((xs.drop a).take (b - a)).length = b - a) : (Ty.sl e 4 ((xs.drop a).take (b - a)).length (lSown ((xs.drop a).take (b - a)))).ok u (.slice (cutA 4 A a m) ((xs.drop a).take (b - a)).length (m - a)) := by
  have := sl_cut h h1 h2 h3 h4
  unfold lSown at this ⊢
  rw [flat_cut cSown 4 (fun _ => rfl)] at this
  rw [hl]; exact this
theorem pack_Sown {w : World} {x : M.Sw} {v1 v2 : Value} {f1 f2 : List Nat} (h1 : (Ty.ints 2 x.pits).own w v1 f1) (h2 : (Ty.ints 2 x.stores).own w v2 f2) : cellsOwn w (cSown x) [v1, v2, .int .i64 x.last, .int .i64 x.laps] (f1 ++ f2) :=
  ⟨f1, f2, rfl, h1, ⟨f2, [], (List.append_nil _).symm, h2, ⟨[], [], rfl, ⟨rfl, rfl⟩, ⟨[], [], rfl, ⟨rfl, rfl⟩, rfl⟩⟩⟩⟩
theorem unpack_Sown {w : World} {x : M.Sw} {A0 A1 : Option Addr} {m0 m1 c0 c1 : Nat} {f : List Nat} (h : cellsOwn w (cSown x) [.slice A0 m0 c0, .slice A1 m1 c1, .int .i64 x.last, .int .i64 x.laps] f) : (rowO 2 1 (.slice A0 m0 c0) m0 (ints_ x.pits) []).pr w ∧ (rowO 2 1 (.slice A1 m1 c1) m1 (ints_ x.stores) []).pr w ∧ f = (rowO 2 1 (.slice A0 m0 c0) m0 (ints_ x.pits) []).fp ++ (rowO 2 1 (.slice A1 m1 c1) m1 (ints_ x.stores) []).fp := by
  obtain ⟨g0, r0, rfl, h0, h⟩ := h
  obtain ⟨g1, r1, rfl, h1, h⟩ := h
  obtain ⟨g2, r2, rfl, h2, h⟩ := h
  obtain ⟨g3, r3, rfl, h3, h⟩ := h
  obtain rfl : _ = [] := h
  obtain ⟨_, rfl⟩ := h2
  obtain ⟨_, rfl⟩ := h3
  have a := ints_open h0
  have b := ints_open h1
  exact ⟨a.1, b.1, by rw [← a.2, ← b.2]; simp⟩
def csowing (x : M.Sow) : List Ty := [Ty.int x.rules.pits, Ty.int x.rules.seeds, Ty.bool x.rules.stores, Ty.bool x.rules.skip, Ty.bool x.rules.relay, Ty.bool x.rules.feed, Ty.bool x.rules.again, Ty.int x.rules.capture, Ty.int x.rules.slam, Ty.int x.player, Ty.ints 2 x.sown.pits, Ty.ints 2 x.sown.stores, Ty.int x.sown.last, Ty.int x.sown.laps, Ty.ints 2 x.path]
theorem open_sowing {u : World} {v : Value} {x : M.Sow} (h : (Ty.agg (csowing x)).ok u v) : ∃ A10 c10 A11 c11 A14 c14, v = .agg #[.int .i64 x.rules.pits, .int .i64 x.rules.seeds, .bool x.rules.stores, .bool x.rules.skip, .bool x.rules.relay, .bool x.rules.feed, .bool x.rules.again, .int .i64 x.rules.capture, .int .i64 x.rules.slam, .int .i64 x.player, .slice A10 x.sown.pits.length c10, .slice A11 x.sown.stores.length c11, .int .i64 x.sown.last, .int .i64 x.sown.laps, .slice A14 x.path.length c14] ∧ (Ty.ints 2 x.sown.pits).ok u (.slice A10 x.sown.pits.length c10) ∧ (Ty.ints 2 x.sown.stores).ok u (.slice A11 x.sown.stores.length c11) ∧ (Ty.ints 2 x.path).ok u (.slice A14 x.path.length c14) ∧ x.sown.pits.length ≤ c10 ∧ c10 ≤ 9223372036854775807 ∧ x.sown.stores.length ≤ c11 ∧ c11 ≤ 9223372036854775807 ∧ x.path.length ≤ c14 ∧ c14 ≤ 9223372036854775807 := by
  obtain ⟨vs, rfl, h⟩ := h
  obtain ⟨x0, r, rfl, h0, h⟩ := cellsOk_cons h
  obtain ⟨x1, r, rfl, h1, h⟩ := cellsOk_cons h
  obtain ⟨x2, r, rfl, h2, h⟩ := cellsOk_cons h
  obtain ⟨x3, r, rfl, h3, h⟩ := cellsOk_cons h
  obtain ⟨x4, r, rfl, h4, h⟩ := cellsOk_cons h
  obtain ⟨x5, r, rfl, h5, h⟩ := cellsOk_cons h
  obtain ⟨x6, r, rfl, h6, h⟩ := cellsOk_cons h
  obtain ⟨x7, r, rfl, h7, h⟩ := cellsOk_cons h
  obtain ⟨x8, r, rfl, h8, h⟩ := cellsOk_cons h
  obtain ⟨x9, r, rfl, h9, h⟩ := cellsOk_cons h
  obtain ⟨x10, r, rfl, h10, h⟩ := cellsOk_cons h
  obtain ⟨x11, r, rfl, h11, h⟩ := cellsOk_cons h
  obtain ⟨x12, r, rfl, h12, h⟩ := cellsOk_cons h
  obtain ⟨x13, r, rfl, h13, h⟩ := cellsOk_cons h
  obtain ⟨x14, r, rfl, h14, h⟩ := cellsOk_cons h
  obtain rfl := cellsOk_nil h
  obtain rfl : x0 = .int .i64 x.rules.pits := h0
  obtain rfl : x1 = .int .i64 x.rules.seeds := h1
  obtain rfl : x2 = .bool x.rules.stores := h2
  obtain rfl : x3 = .bool x.rules.skip := h3
  obtain rfl : x4 = .bool x.rules.relay := h4
  obtain rfl : x5 = .bool x.rules.feed := h5
  obtain rfl : x6 = .bool x.rules.again := h6
  obtain rfl : x7 = .int .i64 x.rules.capture := h7
  obtain rfl : x8 = .int .i64 x.rules.slam := h8
  obtain rfl : x9 = .int .i64 x.player := h9
  obtain ⟨A10, c10, rfl, b10, d10⟩ := sl_form h10
  obtain ⟨A11, c11, rfl, b11, d11⟩ := sl_form h11
  obtain rfl : x12 = .int .i64 x.sown.last := h12
  obtain rfl : x13 = .int .i64 x.sown.laps := h13
  obtain ⟨A14, c14, rfl, b14, d14⟩ := sl_form h14
  exact ⟨A10, c10, A11, c11, A14, c14, rfl, h10, h11, h14, b10, d10, b11, d11, b14, d14⟩
theorem ref_sowing {u : World} {v : Value} {x : M.Sow} (h : (Ty.ref (csowing x)).ok u v) : ∃ b o A10 c10 A11 c11 A14 c14, v = .pointer (some ⟨b, o, none⟩) ∧ RowAt u b o [.int .i64 x.rules.pits, .int .i64 x.rules.seeds, .bool x.rules.stores, .bool x.rules.skip, .bool x.rules.relay, .bool x.rules.feed, .bool x.rules.again, .int .i64 x.rules.capture, .int .i64 x.rules.slam, .int .i64 x.player, .slice A10 x.sown.pits.length c10, .slice A11 x.sown.stores.length c11, .int .i64 x.sown.last, .int .i64 x.sown.laps, .slice A14 x.path.length c14] ∧ (Ty.ints 2 x.sown.pits).ok u (.slice A10 x.sown.pits.length c10) ∧ (Ty.ints 2 x.sown.stores).ok u (.slice A11 x.sown.stores.length c11) ∧ (Ty.ints 2 x.path).ok u (.slice A14 x.path.length c14) ∧ x.sown.pits.length ≤ c10 ∧ c10 ≤ 9223372036854775807 ∧ x.sown.stores.length ≤ c11 ∧ c11 ≤ 9223372036854775807 ∧ x.path.length ≤ c14 ∧ c14 ≤ 9223372036854775807 := by
  obtain ⟨b, o, vs, rfl, h, hr⟩ := h
  obtain ⟨x0, r, rfl, h0, h⟩ := cellsOk_cons h
  obtain ⟨x1, r, rfl, h1, h⟩ := cellsOk_cons h
  obtain ⟨x2, r, rfl, h2, h⟩ := cellsOk_cons h
  obtain ⟨x3, r, rfl, h3, h⟩ := cellsOk_cons h
  obtain ⟨x4, r, rfl, h4, h⟩ := cellsOk_cons h
  obtain ⟨x5, r, rfl, h5, h⟩ := cellsOk_cons h
  obtain ⟨x6, r, rfl, h6, h⟩ := cellsOk_cons h
  obtain ⟨x7, r, rfl, h7, h⟩ := cellsOk_cons h
  obtain ⟨x8, r, rfl, h8, h⟩ := cellsOk_cons h
  obtain ⟨x9, r, rfl, h9, h⟩ := cellsOk_cons h
  obtain ⟨x10, r, rfl, h10, h⟩ := cellsOk_cons h
  obtain ⟨x11, r, rfl, h11, h⟩ := cellsOk_cons h
  obtain ⟨x12, r, rfl, h12, h⟩ := cellsOk_cons h
  obtain ⟨x13, r, rfl, h13, h⟩ := cellsOk_cons h
  obtain ⟨x14, r, rfl, h14, h⟩ := cellsOk_cons h
  obtain rfl := cellsOk_nil h
  obtain rfl : x0 = .int .i64 x.rules.pits := h0
  obtain rfl : x1 = .int .i64 x.rules.seeds := h1
  obtain rfl : x2 = .bool x.rules.stores := h2
  obtain rfl : x3 = .bool x.rules.skip := h3
  obtain rfl : x4 = .bool x.rules.relay := h4
  obtain rfl : x5 = .bool x.rules.feed := h5
  obtain rfl : x6 = .bool x.rules.again := h6
  obtain rfl : x7 = .int .i64 x.rules.capture := h7
  obtain rfl : x8 = .int .i64 x.rules.slam := h8
  obtain rfl : x9 = .int .i64 x.player := h9
  obtain ⟨A10, c10, rfl, b10, d10⟩ := sl_form h10
  obtain ⟨A11, c11, rfl, b11, d11⟩ := sl_form h11
  obtain rfl : x12 = .int .i64 x.sown.last := h12
  obtain rfl : x13 = .int .i64 x.sown.laps := h13
  obtain ⟨A14, c14, rfl, b14, d14⟩ := sl_form h14
  exact ⟨b, o, A10, c10, A11, c11, A14, c14, rfl, hr, h10, h11, h14, b10, d10, b11, d11, b14, d14⟩
theorem own_sowing {u : World} {v : Value} {fp : List Nat} {x : M.Sow} (h : (Ty.agg (csowing x)).own u v fp) : ∃ A10 c10 A11 c11 A14 c14, v = .agg #[.int .i64 x.rules.pits, .int .i64 x.rules.seeds, .bool x.rules.stores, .bool x.rules.skip, .bool x.rules.relay, .bool x.rules.feed, .bool x.rules.again, .int .i64 x.rules.capture, .int .i64 x.rules.slam, .int .i64 x.player, .slice A10 x.sown.pits.length c10, .slice A11 x.sown.stores.length c11, .int .i64 x.sown.last, .int .i64 x.sown.laps, .slice A14 x.path.length c14] ∧ cellsOwn u (csowing x) [.int .i64 x.rules.pits, .int .i64 x.rules.seeds, .bool x.rules.stores, .bool x.rules.skip, .bool x.rules.relay, .bool x.rules.feed, .bool x.rules.again, .int .i64 x.rules.capture, .int .i64 x.rules.slam, .int .i64 x.player, .slice A10 x.sown.pits.length c10, .slice A11 x.sown.stores.length c11, .int .i64 x.sown.last, .int .i64 x.sown.laps, .slice A14 x.path.length c14] fp ∧ x.sown.pits.length ≤ c10 ∧ c10 ≤ 9223372036854775807 ∧ x.sown.stores.length ≤ c11 ∧ c11 ≤ 9223372036854775807 ∧ x.path.length ≤ c14 ∧ c14 ≤ 9223372036854775807 := by
  obtain ⟨vs, rfl, hc⟩ := h
  have h := hc.ok
  obtain ⟨x0, r, rfl, h0, h⟩ := cellsOk_cons h
  obtain ⟨x1, r, rfl, h1, h⟩ := cellsOk_cons h
  obtain ⟨x2, r, rfl, h2, h⟩ := cellsOk_cons h
  obtain ⟨x3, r, rfl, h3, h⟩ := cellsOk_cons h
  obtain ⟨x4, r, rfl, h4, h⟩ := cellsOk_cons h
  obtain ⟨x5, r, rfl, h5, h⟩ := cellsOk_cons h
  obtain ⟨x6, r, rfl, h6, h⟩ := cellsOk_cons h
  obtain ⟨x7, r, rfl, h7, h⟩ := cellsOk_cons h
  obtain ⟨x8, r, rfl, h8, h⟩ := cellsOk_cons h
  obtain ⟨x9, r, rfl, h9, h⟩ := cellsOk_cons h
  obtain ⟨x10, r, rfl, h10, h⟩ := cellsOk_cons h
  obtain ⟨x11, r, rfl, h11, h⟩ := cellsOk_cons h
  obtain ⟨x12, r, rfl, h12, h⟩ := cellsOk_cons h
  obtain ⟨x13, r, rfl, h13, h⟩ := cellsOk_cons h
  obtain ⟨x14, r, rfl, h14, h⟩ := cellsOk_cons h
  obtain rfl := cellsOk_nil h
  obtain rfl : x0 = .int .i64 x.rules.pits := h0
  obtain rfl : x1 = .int .i64 x.rules.seeds := h1
  obtain rfl : x2 = .bool x.rules.stores := h2
  obtain rfl : x3 = .bool x.rules.skip := h3
  obtain rfl : x4 = .bool x.rules.relay := h4
  obtain rfl : x5 = .bool x.rules.feed := h5
  obtain rfl : x6 = .bool x.rules.again := h6
  obtain rfl : x7 = .int .i64 x.rules.capture := h7
  obtain rfl : x8 = .int .i64 x.rules.slam := h8
  obtain rfl : x9 = .int .i64 x.player := h9
  obtain ⟨A10, c10, rfl, b10, d10⟩ := sl_form h10
  obtain ⟨A11, c11, rfl, b11, d11⟩ := sl_form h11
  obtain rfl : x12 = .int .i64 x.sown.last := h12
  obtain rfl : x13 = .int .i64 x.sown.laps := h13
  obtain ⟨A14, c14, rfl, b14, d14⟩ := sl_form h14
  exact ⟨A10, c10, A11, c11, A14, c14, rfl, hc, b10, d10, b11, d11, b14, d14⟩
theorem Spl_sowing (x : M.Sow) : Spl (Ty.agg (csowing x)) (fun v ow => ∃ A10 c10 A11 c11 A14 c14 f, v = .agg #[.int .i64 x.rules.pits, .int .i64 x.rules.seeds, .bool x.rules.stores, .bool x.rules.skip, .bool x.rules.relay, .bool x.rules.feed, .bool x.rules.again, .int .i64 x.rules.capture, .int .i64 x.rules.slam, .int .i64 x.player, .slice A10 x.sown.pits.length c10, .slice A11 x.sown.stores.length c11, .int .i64 x.sown.last, .int .i64 x.sown.laps, .slice A14 x.path.length c14] ∧ ow = [ownC (csowing x) [.int .i64 x.rules.pits, .int .i64 x.rules.seeds, .bool x.rules.stores, .bool x.rules.skip, .bool x.rules.relay, .bool x.rules.feed, .bool x.rules.again, .int .i64 x.rules.capture, .int .i64 x.rules.slam, .int .i64 x.player, .slice A10 x.sown.pits.length c10, .slice A11 x.sown.stores.length c11, .int .i64 x.sown.last, .int .i64 x.sown.laps, .slice A14 x.path.length c14] f] ∧ x.sown.pits.length ≤ c10 ∧ c10 ≤ 9223372036854775807 ∧ x.sown.stores.length ≤ c11 ∧ c11 ≤ 9223372036854775807 ∧ x.path.length ≤ c14 ∧ c14 ≤ 9223372036854775807) := fun w v fp h => by
  obtain ⟨A10, c10, A11, c11, A14, c14, rfl, hc, b10, d10, b11, d11, b14, d14⟩ := own_sowing h
  exact ⟨_, ⟨A10, c10, A11, c11, A14, c14, fp, rfl, rfl, b10, d10, b11, d11, b14, d14⟩, by simp [ownC], fun o ho => by simp at ho; subst ho; exact hc⟩
def lsowing (xs : List M.Sow) : List Ty := xs.flatMap csowing
theorem lsowing_length (xs : List M.Sow) : (lsowing xs).length = xs.length * 15 := flat_len csowing 15 (fun _ => rfl) xs
theorem elem_sowing {u : World} {e c i : Nat} {A : Option Addr} {xs : List M.Sow} {x : M.Sow} (h : (Ty.sl e 15 xs.length (lsowing xs)).ok u (.slice A xs.length c)) (hi : xs[i]? = some x) : ∃ b o A10 c10 A11 c11 A14 c14, elemA 15 (.slice A xs.length c) i = some ⟨b, o, none⟩ ∧ RowAt u b o [.int .i64 x.rules.pits, .int .i64 x.rules.seeds, .bool x.rules.stores, .bool x.rules.skip, .bool x.rules.relay, .bool x.rules.feed, .bool x.rules.again, .int .i64 x.rules.capture, .int .i64 x.rules.slam, .int .i64 x.player, .slice A10 x.sown.pits.length c10, .slice A11 x.sown.stores.length c11, .int .i64 x.sown.last, .int .i64 x.sown.laps, .slice A14 x.path.length c14] ∧ (Ty.ints 2 x.sown.pits).ok u (.slice A10 x.sown.pits.length c10) ∧ (Ty.ints 2 x.sown.stores).ok u (.slice A11 x.sown.stores.length c11) ∧ (Ty.ints 2 x.path).ok u (.slice A14 x.path.length c14) ∧ x.sown.pits.length ≤ c10 ∧ c10 ≤ 9223372036854775807 ∧ x.sown.stores.length ≤ c11 ∧ c11 ≤ 9223372036854775807 ∧ x.path.length ≤ c14 ∧ c14 ≤ 9223372036854775807 := by
  obtain ⟨b, o, vs, he, h, hr⟩ := sl_elem h (List.getElem?_eq_some_iff.1 hi).1 rfl
  have e := drop_flat csowing 15 (fun _ => rfl) xs i x hi
  unfold lsowing at h
  rw [e] at h
  obtain ⟨x0, r, rfl, h0, h⟩ := cellsOk_cons h
  obtain ⟨x1, r, rfl, h1, h⟩ := cellsOk_cons h
  obtain ⟨x2, r, rfl, h2, h⟩ := cellsOk_cons h
  obtain ⟨x3, r, rfl, h3, h⟩ := cellsOk_cons h
  obtain ⟨x4, r, rfl, h4, h⟩ := cellsOk_cons h
  obtain ⟨x5, r, rfl, h5, h⟩ := cellsOk_cons h
  obtain ⟨x6, r, rfl, h6, h⟩ := cellsOk_cons h
  obtain ⟨x7, r, rfl, h7, h⟩ := cellsOk_cons h
  obtain ⟨x8, r, rfl, h8, h⟩ := cellsOk_cons h
  obtain ⟨x9, r, rfl, h9, h⟩ := cellsOk_cons h
  obtain ⟨x10, r, rfl, h10, h⟩ := cellsOk_cons h
  obtain ⟨x11, r, rfl, h11, h⟩ := cellsOk_cons h
  obtain ⟨x12, r, rfl, h12, h⟩ := cellsOk_cons h
  obtain ⟨x13, r, rfl, h13, h⟩ := cellsOk_cons h
  obtain ⟨x14, r, rfl, h14, h⟩ := cellsOk_cons h
  obtain rfl := cellsOk_nil h
  obtain rfl : x0 = .int .i64 x.rules.pits := h0
  obtain rfl : x1 = .int .i64 x.rules.seeds := h1
  obtain rfl : x2 = .bool x.rules.stores := h2
  obtain rfl : x3 = .bool x.rules.skip := h3
  obtain rfl : x4 = .bool x.rules.relay := h4
  obtain rfl : x5 = .bool x.rules.feed := h5
  obtain rfl : x6 = .bool x.rules.again := h6
  obtain rfl : x7 = .int .i64 x.rules.capture := h7
  obtain rfl : x8 = .int .i64 x.rules.slam := h8
  obtain rfl : x9 = .int .i64 x.player := h9
  obtain ⟨A10, c10, rfl, b10, d10⟩ := sl_form h10
  obtain ⟨A11, c11, rfl, b11, d11⟩ := sl_form h11
  obtain rfl : x12 = .int .i64 x.sown.last := h12
  obtain rfl : x13 = .int .i64 x.sown.laps := h13
  obtain ⟨A14, c14, rfl, b14, d14⟩ := sl_form h14
  exact ⟨b, o, A10, c10, A11, c11, A14, c14, he, hr, h10, h11, h14, b10, d10, b11, d11, b14, d14⟩
theorem elemv_sowing {w : World} {i : Nat} {xs : List M.Sow} {x : M.Sow} {vs : List Value} (h : cellsOk w (lsowing xs) vs) (hi : xs[i]? = some x) : ∃ A10 c10 A11 c11 A14 c14, (vs.drop (0 + i * 15)).take 15 = [.int .i64 x.rules.pits, .int .i64 x.rules.seeds, .bool x.rules.stores, .bool x.rules.skip, .bool x.rules.relay, .bool x.rules.feed, .bool x.rules.again, .int .i64 x.rules.capture, .int .i64 x.rules.slam, .int .i64 x.player, .slice A10 x.sown.pits.length c10, .slice A11 x.sown.stores.length c11, .int .i64 x.sown.last, .int .i64 x.sown.laps, .slice A14 x.path.length c14] ∧ x.sown.pits.length ≤ c10 ∧ c10 ≤ 9223372036854775807 ∧ x.sown.stores.length ≤ c11 ∧ c11 ≤ 9223372036854775807 ∧ x.path.length ≤ c14 ∧ c14 ≤ 9223372036854775807 := by
  rw [Nat.zero_add]
  have h := cellsOk.take 15 (cellsOk.drop (i * 15) h)
  rw [lsowing, drop_flat csowing 15 (fun _ => rfl) xs i x hi] at h
  generalize (vs.drop (i * 15)).take 15 = vs at h ⊢
  obtain ⟨x0, r, rfl, h0, h⟩ := cellsOk_cons h
  obtain ⟨x1, r, rfl, h1, h⟩ := cellsOk_cons h
  obtain ⟨x2, r, rfl, h2, h⟩ := cellsOk_cons h
  obtain ⟨x3, r, rfl, h3, h⟩ := cellsOk_cons h
  obtain ⟨x4, r, rfl, h4, h⟩ := cellsOk_cons h
  obtain ⟨x5, r, rfl, h5, h⟩ := cellsOk_cons h
  obtain ⟨x6, r, rfl, h6, h⟩ := cellsOk_cons h
  obtain ⟨x7, r, rfl, h7, h⟩ := cellsOk_cons h
  obtain ⟨x8, r, rfl, h8, h⟩ := cellsOk_cons h
  obtain ⟨x9, r, rfl, h9, h⟩ := cellsOk_cons h
  obtain ⟨x10, r, rfl, h10, h⟩ := cellsOk_cons h
  obtain ⟨x11, r, rfl, h11, h⟩ := cellsOk_cons h
  obtain ⟨x12, r, rfl, h12, h⟩ := cellsOk_cons h
  obtain ⟨x13, r, rfl, h13, h⟩ := cellsOk_cons h
  obtain ⟨x14, r, rfl, h14, h⟩ := cellsOk_cons h
  obtain rfl := cellsOk_nil h
  obtain rfl : x0 = .int .i64 x.rules.pits := h0
  obtain rfl : x1 = .int .i64 x.rules.seeds := h1
  obtain rfl : x2 = .bool x.rules.stores := h2
  obtain rfl : x3 = .bool x.rules.skip := h3
  obtain rfl : x4 = .bool x.rules.relay := h4
  obtain rfl : x5 = .bool x.rules.feed := h5
  obtain rfl : x6 = .bool x.rules.again := h6
  obtain rfl : x7 = .int .i64 x.rules.capture := h7
  obtain rfl : x8 = .int .i64 x.rules.slam := h8
  obtain rfl : x9 = .int .i64 x.player := h9
  obtain ⟨A10, c10, rfl, b10, d10⟩ := sl_form h10
  obtain ⟨A11, c11, rfl, b11, d11⟩ := sl_form h11
  obtain rfl : x12 = .int .i64 x.sown.last := h12
  obtain rfl : x13 = .int .i64 x.sown.laps := h13
  obtain ⟨A14, c14, rfl, b14, d14⟩ := sl_form h14
  exact ⟨A10, c10, A11, c11, A14, c14, rfl, b10, d10, b11, d11, b14, d14⟩
theorem lsowing_snoc (xs : List M.Sow) (x : M.Sow) : lsowing xs ++ csowing x = lsowing (xs ++ [x]) := by simp [lsowing]
theorem lsowing_cut {u : World} {e c a b m : Nat} {A : Option Addr} {xs : List M.Sow} (h : (Ty.sl e 15 xs.length (lsowing xs)).ok u (.slice A xs.length c)) (h1 : a ≤ b) (h2 : b ≤ xs.length) (h3 : b ≤ m) (h4 : m ≤ c) (hl : ((xs.drop a).take (b - a)).length = b - a) : (Ty.sl e 15 ((xs.drop a).take (b - a)).length (lsowing ((xs.drop a).take (b - a)))).ok u (.slice (cutA 15 A a m) ((xs.drop a).take (b - a)).length (m - a)) := by
  have := sl_cut h h1 h2 h3 h4
  unfold lsowing at this ⊢
  rw [flat_cut csowing 15 (fun _ => rfl)] at this
  rw [hl]; exact this
def cResult (x : M.Res) : List Ty := [Ty.int x.move, Ty.int x.gain, Ty.bool x.again, Ty.ints 2 x.next.pits, Ty.ints 2 x.next.stores, Ty.int x.next.player]
theorem open_Result {u : World} {v : Value} {x : M.Res} (h : (Ty.agg (cResult x)).ok u v) : ∃ A3 c3 A4 c4, v = .agg #[.int .i64 x.move, .int .i64 x.gain, .bool x.again, .slice A3 x.next.pits.length c3, .slice A4 x.next.stores.length c4, .int .i64 x.next.player] ∧ (Ty.ints 2 x.next.pits).ok u (.slice A3 x.next.pits.length c3) ∧ (Ty.ints 2 x.next.stores).ok u (.slice A4 x.next.stores.length c4) ∧ x.next.pits.length ≤ c3 ∧ c3 ≤ 9223372036854775807 ∧ x.next.stores.length ≤ c4 ∧ c4 ≤ 9223372036854775807 := by
  obtain ⟨vs, rfl, h⟩ := h
  obtain ⟨x0, r, rfl, h0, h⟩ := cellsOk_cons h
  obtain ⟨x1, r, rfl, h1, h⟩ := cellsOk_cons h
  obtain ⟨x2, r, rfl, h2, h⟩ := cellsOk_cons h
  obtain ⟨x3, r, rfl, h3, h⟩ := cellsOk_cons h
  obtain ⟨x4, r, rfl, h4, h⟩ := cellsOk_cons h
  obtain ⟨x5, r, rfl, h5, h⟩ := cellsOk_cons h
  obtain rfl := cellsOk_nil h
  obtain rfl : x0 = .int .i64 x.move := h0
  obtain rfl : x1 = .int .i64 x.gain := h1
  obtain rfl : x2 = .bool x.again := h2
  obtain ⟨A3, c3, rfl, b3, d3⟩ := sl_form h3
  obtain ⟨A4, c4, rfl, b4, d4⟩ := sl_form h4
  obtain rfl : x5 = .int .i64 x.next.player := h5
  exact ⟨A3, c3, A4, c4, rfl, h3, h4, b3, d3, b4, d4⟩
theorem ref_Result {u : World} {v : Value} {x : M.Res} (h : (Ty.ref (cResult x)).ok u v) : ∃ b o A3 c3 A4 c4, v = .pointer (some ⟨b, o, none⟩) ∧ RowAt u b o [.int .i64 x.move, .int .i64 x.gain, .bool x.again, .slice A3 x.next.pits.length c3, .slice A4 x.next.stores.length c4, .int .i64 x.next.player] ∧ (Ty.ints 2 x.next.pits).ok u (.slice A3 x.next.pits.length c3) ∧ (Ty.ints 2 x.next.stores).ok u (.slice A4 x.next.stores.length c4) ∧ x.next.pits.length ≤ c3 ∧ c3 ≤ 9223372036854775807 ∧ x.next.stores.length ≤ c4 ∧ c4 ≤ 9223372036854775807 := by
  obtain ⟨b, o, vs, rfl, h, hr⟩ := h
  obtain ⟨x0, r, rfl, h0, h⟩ := cellsOk_cons h
  obtain ⟨x1, r, rfl, h1, h⟩ := cellsOk_cons h
  obtain ⟨x2, r, rfl, h2, h⟩ := cellsOk_cons h
  obtain ⟨x3, r, rfl, h3, h⟩ := cellsOk_cons h
  obtain ⟨x4, r, rfl, h4, h⟩ := cellsOk_cons h
  obtain ⟨x5, r, rfl, h5, h⟩ := cellsOk_cons h
  obtain rfl := cellsOk_nil h
  obtain rfl : x0 = .int .i64 x.move := h0
  obtain rfl : x1 = .int .i64 x.gain := h1
  obtain rfl : x2 = .bool x.again := h2
  obtain ⟨A3, c3, rfl, b3, d3⟩ := sl_form h3
  obtain ⟨A4, c4, rfl, b4, d4⟩ := sl_form h4
  obtain rfl : x5 = .int .i64 x.next.player := h5
  exact ⟨b, o, A3, c3, A4, c4, rfl, hr, h3, h4, b3, d3, b4, d4⟩
theorem own_Result {u : World} {v : Value} {fp : List Nat} {x : M.Res} (h : (Ty.agg (cResult x)).own u v fp) : ∃ A3 c3 A4 c4, v = .agg #[.int .i64 x.move, .int .i64 x.gain, .bool x.again, .slice A3 x.next.pits.length c3, .slice A4 x.next.stores.length c4, .int .i64 x.next.player] ∧ cellsOwn u (cResult x) [.int .i64 x.move, .int .i64 x.gain, .bool x.again, .slice A3 x.next.pits.length c3, .slice A4 x.next.stores.length c4, .int .i64 x.next.player] fp ∧ x.next.pits.length ≤ c3 ∧ c3 ≤ 9223372036854775807 ∧ x.next.stores.length ≤ c4 ∧ c4 ≤ 9223372036854775807 := by
  obtain ⟨vs, rfl, hc⟩ := h
  have h := hc.ok
  obtain ⟨x0, r, rfl, h0, h⟩ := cellsOk_cons h
  obtain ⟨x1, r, rfl, h1, h⟩ := cellsOk_cons h
  obtain ⟨x2, r, rfl, h2, h⟩ := cellsOk_cons h
  obtain ⟨x3, r, rfl, h3, h⟩ := cellsOk_cons h
  obtain ⟨x4, r, rfl, h4, h⟩ := cellsOk_cons h
  obtain ⟨x5, r, rfl, h5, h⟩ := cellsOk_cons h
  obtain rfl := cellsOk_nil h
  obtain rfl : x0 = .int .i64 x.move := h0
  obtain rfl : x1 = .int .i64 x.gain := h1
  obtain rfl : x2 = .bool x.again := h2
  obtain ⟨A3, c3, rfl, b3, d3⟩ := sl_form h3
  obtain ⟨A4, c4, rfl, b4, d4⟩ := sl_form h4
  obtain rfl : x5 = .int .i64 x.next.player := h5
  exact ⟨A3, c3, A4, c4, rfl, hc, b3, d3, b4, d4⟩
theorem Spl_Result (x : M.Res) : Spl (Ty.agg (cResult x)) (fun v ow => ∃ A3 c3 A4 c4 f, v = .agg #[.int .i64 x.move, .int .i64 x.gain, .bool x.again, .slice A3 x.next.pits.length c3, .slice A4 x.next.stores.length c4, .int .i64 x.next.player] ∧ ow = [ownC (cResult x) [.int .i64 x.move, .int .i64 x.gain, .bool x.again, .slice A3 x.next.pits.length c3, .slice A4 x.next.stores.length c4, .int .i64 x.next.player] f] ∧ x.next.pits.length ≤ c3 ∧ c3 ≤ 9223372036854775807 ∧ x.next.stores.length ≤ c4 ∧ c4 ≤ 9223372036854775807) := fun w v fp h => by
  obtain ⟨A3, c3, A4, c4, rfl, hc, b3, d3, b4, d4⟩ := own_Result h
  exact ⟨_, ⟨A3, c3, A4, c4, fp, rfl, rfl, b3, d3, b4, d4⟩, by simp [ownC], fun o ho => by simp at ho; subst ho; exact hc⟩
def lResult (xs : List M.Res) : List Ty := xs.flatMap cResult
theorem lResult_length (xs : List M.Res) : (lResult xs).length = xs.length * 6 := flat_len cResult 6 (fun _ => rfl) xs
theorem elem_Result {u : World} {e c i : Nat} {A : Option Addr} {xs : List M.Res} {x : M.Res} (h : (Ty.sl e 6 xs.length (lResult xs)).ok u (.slice A xs.length c)) (hi : xs[i]? = some x) : ∃ b o A3 c3 A4 c4, elemA 6 (.slice A xs.length c) i = some ⟨b, o, none⟩ ∧ RowAt u b o [.int .i64 x.move, .int .i64 x.gain, .bool x.again, .slice A3 x.next.pits.length c3, .slice A4 x.next.stores.length c4, .int .i64 x.next.player] ∧ (Ty.ints 2 x.next.pits).ok u (.slice A3 x.next.pits.length c3) ∧ (Ty.ints 2 x.next.stores).ok u (.slice A4 x.next.stores.length c4) ∧ x.next.pits.length ≤ c3 ∧ c3 ≤ 9223372036854775807 ∧ x.next.stores.length ≤ c4 ∧ c4 ≤ 9223372036854775807 := by
  obtain ⟨b, o, vs, he, h, hr⟩ := sl_elem h (List.getElem?_eq_some_iff.1 hi).1 rfl
  have e := drop_flat cResult 6 (fun _ => rfl) xs i x hi
  unfold lResult at h
  rw [e] at h
  obtain ⟨x0, r, rfl, h0, h⟩ := cellsOk_cons h
  obtain ⟨x1, r, rfl, h1, h⟩ := cellsOk_cons h
  obtain ⟨x2, r, rfl, h2, h⟩ := cellsOk_cons h
  obtain ⟨x3, r, rfl, h3, h⟩ := cellsOk_cons h
  obtain ⟨x4, r, rfl, h4, h⟩ := cellsOk_cons h
  obtain ⟨x5, r, rfl, h5, h⟩ := cellsOk_cons h
  obtain rfl := cellsOk_nil h
  obtain rfl : x0 = .int .i64 x.move := h0
  obtain rfl : x1 = .int .i64 x.gain := h1
  obtain rfl : x2 = .bool x.again := h2
  obtain ⟨A3, c3, rfl, b3, d3⟩ := sl_form h3
  obtain ⟨A4, c4, rfl, b4, d4⟩ := sl_form h4
  obtain rfl : x5 = .int .i64 x.next.player := h5
  exact ⟨b, o, A3, c3, A4, c4, he, hr, h3, h4, b3, d3, b4, d4⟩
theorem elemv_Result {w : World} {i : Nat} {xs : List M.Res} {x : M.Res} {vs : List Value} (h : cellsOk w (lResult xs) vs) (hi : xs[i]? = some x) : ∃ A3 c3 A4 c4, (vs.drop (0 + i * 6)).take 6 = [.int .i64 x.move, .int .i64 x.gain, .bool x.again, .slice A3 x.next.pits.length c3, .slice A4 x.next.stores.length c4, .int .i64 x.next.player] ∧ x.next.pits.length ≤ c3 ∧ c3 ≤ 9223372036854775807 ∧ x.next.stores.length ≤ c4 ∧ c4 ≤ 9223372036854775807 := by
  rw [Nat.zero_add]
  have h := cellsOk.take 6 (cellsOk.drop (i * 6) h)
  rw [lResult, drop_flat cResult 6 (fun _ => rfl) xs i x hi] at h
  generalize (vs.drop (i * 6)).take 6 = vs at h ⊢
  obtain ⟨x0, r, rfl, h0, h⟩ := cellsOk_cons h
  obtain ⟨x1, r, rfl, h1, h⟩ := cellsOk_cons h
  obtain ⟨x2, r, rfl, h2, h⟩ := cellsOk_cons h
  obtain ⟨x3, r, rfl, h3, h⟩ := cellsOk_cons h
  obtain ⟨x4, r, rfl, h4, h⟩ := cellsOk_cons h
  obtain ⟨x5, r, rfl, h5, h⟩ := cellsOk_cons h
  obtain rfl := cellsOk_nil h
  obtain rfl : x0 = .int .i64 x.move := h0
  obtain rfl : x1 = .int .i64 x.gain := h1
  obtain rfl : x2 = .bool x.again := h2
  obtain ⟨A3, c3, rfl, b3, d3⟩ := sl_form h3
  obtain ⟨A4, c4, rfl, b4, d4⟩ := sl_form h4
  obtain rfl : x5 = .int .i64 x.next.player := h5
  exact ⟨A3, c3, A4, c4, rfl, b3, d3, b4, d4⟩
theorem lResult_snoc (xs : List M.Res) (x : M.Res) : lResult xs ++ cResult x = lResult (xs ++ [x]) := by simp [lResult]
theorem lResult_cut {u : World} {e c a b m : Nat} {A : Option Addr} {xs : List M.Res} (h : (Ty.sl e 6 xs.length (lResult xs)).ok u (.slice A xs.length c)) (h1 : a ≤ b) (h2 : b ≤ xs.length) (h3 : b ≤ m) (h4 : m ≤ c) (hl : ((xs.drop a).take (b - a)).length = b - a) : (Ty.sl e 6 ((xs.drop a).take (b - a)).length (lResult ((xs.drop a).take (b - a)))).ok u (.slice (cutA 6 A a m) ((xs.drop a).take (b - a)).length (m - a)) := by
  have := sl_cut h h1 h2 h3 h4
  unfold lResult at this ⊢
  rw [flat_cut cResult 6 (fun _ => rfl)] at this
  rw [hl]; exact this
theorem pack_Result {w : World} {x : M.Res} {v1 v2 : Value} {f1 f2 : List Nat} (h1 : (Ty.ints 2 x.next.pits).own w v1 f1) (h2 : (Ty.ints 2 x.next.stores).own w v2 f2) : cellsOwn w (cResult x) [.int .i64 x.move, .int .i64 x.gain, .bool x.again, v1, v2, .int .i64 x.next.player] (f1 ++ f2) :=
  ⟨[], f1 ++ f2, rfl, ⟨rfl, rfl⟩, ⟨[], f1 ++ f2, rfl, ⟨rfl, rfl⟩, ⟨[], f1 ++ f2, rfl, ⟨rfl, rfl⟩, ⟨f1, f2, rfl, h1, ⟨f2, [], (List.append_nil _).symm, h2, ⟨[], [], rfl, ⟨rfl, rfl⟩, rfl⟩⟩⟩⟩⟩⟩
theorem unpack_Result {w : World} {x : M.Res} {A3 A4 : Option Addr} {m3 m4 c3 c4 : Nat} {f : List Nat} (h : cellsOwn w (cResult x) [.int .i64 x.move, .int .i64 x.gain, .bool x.again, .slice A3 m3 c3, .slice A4 m4 c4, .int .i64 x.next.player] f) : (rowO 2 1 (.slice A3 m3 c3) m3 (ints_ x.next.pits) []).pr w ∧ (rowO 2 1 (.slice A4 m4 c4) m4 (ints_ x.next.stores) []).pr w ∧ f = (rowO 2 1 (.slice A3 m3 c3) m3 (ints_ x.next.pits) []).fp ++ (rowO 2 1 (.slice A4 m4 c4) m4 (ints_ x.next.stores) []).fp := by
  obtain ⟨g0, r0, rfl, h0, h⟩ := h
  obtain ⟨g1, r1, rfl, h1, h⟩ := h
  obtain ⟨g2, r2, rfl, h2, h⟩ := h
  obtain ⟨g3, r3, rfl, h3, h⟩ := h
  obtain ⟨g4, r4, rfl, h4, h⟩ := h
  obtain ⟨g5, r5, rfl, h5, h⟩ := h
  obtain rfl : _ = [] := h
  obtain ⟨_, rfl⟩ := h0
  obtain ⟨_, rfl⟩ := h1
  obtain ⟨_, rfl⟩ := h2
  obtain ⟨_, rfl⟩ := h5
  have a := ints_open h3
  have b := ints_open h4
  exact ⟨a.1, b.1, by rw [← a.2, ← b.2]; simp⟩
def cResultL (x : M.Res) : List Ty := [Ty.int x.move, Ty.int x.gain, Ty.bool x.again, Ty.any, Ty.any, Ty.any]
theorem open_ResultL {u : World} {v : Value} {x : M.Res} (h : (Ty.agg (cResultL x)).ok u v) : ∃ V3 V4 V5, v = .agg #[.int .i64 x.move, .int .i64 x.gain, .bool x.again, V3, V4, V5] ∧ V3.oneCell' = true ∧ V4.oneCell' = true ∧ V5.oneCell' = true := by
  obtain ⟨vs, rfl, h⟩ := h
  obtain ⟨x0, r, rfl, h0, h⟩ := cellsOk_cons h
  obtain ⟨x1, r, rfl, h1, h⟩ := cellsOk_cons h
  obtain ⟨x2, r, rfl, h2, h⟩ := cellsOk_cons h
  obtain ⟨x3, r, rfl, h3, h⟩ := cellsOk_cons h
  obtain ⟨x4, r, rfl, h4, h⟩ := cellsOk_cons h
  obtain ⟨x5, r, rfl, h5, h⟩ := cellsOk_cons h
  obtain rfl := cellsOk_nil h
  obtain rfl : x0 = .int .i64 x.move := h0
  obtain rfl : x1 = .int .i64 x.gain := h1
  obtain rfl : x2 = .bool x.again := h2
  exact ⟨x3, x4, x5, rfl, h3, h4, h5⟩
theorem ref_ResultL {u : World} {v : Value} {x : M.Res} (h : (Ty.ref (cResultL x)).ok u v) : ∃ b o V3 V4 V5, v = .pointer (some ⟨b, o, none⟩) ∧ RowAt u b o [.int .i64 x.move, .int .i64 x.gain, .bool x.again, V3, V4, V5] ∧ V3.oneCell' = true ∧ V4.oneCell' = true ∧ V5.oneCell' = true := by
  obtain ⟨b, o, vs, rfl, h, hr⟩ := h
  obtain ⟨x0, r, rfl, h0, h⟩ := cellsOk_cons h
  obtain ⟨x1, r, rfl, h1, h⟩ := cellsOk_cons h
  obtain ⟨x2, r, rfl, h2, h⟩ := cellsOk_cons h
  obtain ⟨x3, r, rfl, h3, h⟩ := cellsOk_cons h
  obtain ⟨x4, r, rfl, h4, h⟩ := cellsOk_cons h
  obtain ⟨x5, r, rfl, h5, h⟩ := cellsOk_cons h
  obtain rfl := cellsOk_nil h
  obtain rfl : x0 = .int .i64 x.move := h0
  obtain rfl : x1 = .int .i64 x.gain := h1
  obtain rfl : x2 = .bool x.again := h2
  exact ⟨b, o, x3, x4, x5, rfl, hr, h3, h4, h5⟩
theorem own_ResultL {u : World} {v : Value} {fp : List Nat} {x : M.Res} (h : (Ty.agg (cResultL x)).own u v fp) : ∃ V3 V4 V5, v = .agg #[.int .i64 x.move, .int .i64 x.gain, .bool x.again, V3, V4, V5] ∧ cellsOwn u (cResultL x) [.int .i64 x.move, .int .i64 x.gain, .bool x.again, V3, V4, V5] fp ∧ V3.oneCell' = true ∧ V4.oneCell' = true ∧ V5.oneCell' = true := by
  obtain ⟨vs, rfl, hc⟩ := h
  have h := hc.ok
  obtain ⟨x0, r, rfl, h0, h⟩ := cellsOk_cons h
  obtain ⟨x1, r, rfl, h1, h⟩ := cellsOk_cons h
  obtain ⟨x2, r, rfl, h2, h⟩ := cellsOk_cons h
  obtain ⟨x3, r, rfl, h3, h⟩ := cellsOk_cons h
  obtain ⟨x4, r, rfl, h4, h⟩ := cellsOk_cons h
  obtain ⟨x5, r, rfl, h5, h⟩ := cellsOk_cons h
  obtain rfl := cellsOk_nil h
  obtain rfl : x0 = .int .i64 x.move := h0
  obtain rfl : x1 = .int .i64 x.gain := h1
  obtain rfl : x2 = .bool x.again := h2
  exact ⟨x3, x4, x5, rfl, hc, h3, h4, h5⟩
theorem Spl_ResultL (x : M.Res) : Spl (Ty.agg (cResultL x)) (fun v ow => ∃ V3 V4 V5 f, v = .agg #[.int .i64 x.move, .int .i64 x.gain, .bool x.again, V3, V4, V5] ∧ ow = [ownC (cResultL x) [.int .i64 x.move, .int .i64 x.gain, .bool x.again, V3, V4, V5] f] ∧ V3.oneCell' = true ∧ V4.oneCell' = true ∧ V5.oneCell' = true) := fun w v fp h => by
  obtain ⟨V3, V4, V5, rfl, hc, h3, h4, h5⟩ := own_ResultL h
  exact ⟨_, ⟨V3, V4, V5, fp, rfl, rfl, h3, h4, h5⟩, by simp [ownC], fun o ho => by simp at ho; subst ho; exact hc⟩
def lResultL (xs : List M.Res) : List Ty := xs.flatMap cResultL
theorem lResultL_length (xs : List M.Res) : (lResultL xs).length = xs.length * 6 := flat_len cResultL 6 (fun _ => rfl) xs
theorem elem_ResultL {u : World} {e c i : Nat} {A : Option Addr} {xs : List M.Res} {x : M.Res} (h : (Ty.sl e 6 xs.length (lResultL xs)).ok u (.slice A xs.length c)) (hi : xs[i]? = some x) : ∃ b o V3 V4 V5, elemA 6 (.slice A xs.length c) i = some ⟨b, o, none⟩ ∧ RowAt u b o [.int .i64 x.move, .int .i64 x.gain, .bool x.again, V3, V4, V5] ∧ V3.oneCell' = true ∧ V4.oneCell' = true ∧ V5.oneCell' = true := by
  obtain ⟨b, o, vs, he, h, hr⟩ := sl_elem h (List.getElem?_eq_some_iff.1 hi).1 rfl
  have e := drop_flat cResultL 6 (fun _ => rfl) xs i x hi
  unfold lResultL at h
  rw [e] at h
  obtain ⟨x0, r, rfl, h0, h⟩ := cellsOk_cons h
  obtain ⟨x1, r, rfl, h1, h⟩ := cellsOk_cons h
  obtain ⟨x2, r, rfl, h2, h⟩ := cellsOk_cons h
  obtain ⟨x3, r, rfl, h3, h⟩ := cellsOk_cons h
  obtain ⟨x4, r, rfl, h4, h⟩ := cellsOk_cons h
  obtain ⟨x5, r, rfl, h5, h⟩ := cellsOk_cons h
  obtain rfl := cellsOk_nil h
  obtain rfl : x0 = .int .i64 x.move := h0
  obtain rfl : x1 = .int .i64 x.gain := h1
  obtain rfl : x2 = .bool x.again := h2
  exact ⟨b, o, x3, x4, x5, he, hr, h3, h4, h5⟩
theorem elemv_ResultL {w : World} {i : Nat} {xs : List M.Res} {x : M.Res} {vs : List Value} (h : cellsOk w (lResultL xs) vs) (hi : xs[i]? = some x) : ∃ V3 V4 V5, (vs.drop (0 + i * 6)).take 6 = [.int .i64 x.move, .int .i64 x.gain, .bool x.again, V3, V4, V5] ∧ V3.oneCell' = true ∧ V4.oneCell' = true ∧ V5.oneCell' = true := by
  rw [Nat.zero_add]
  have h := cellsOk.take 6 (cellsOk.drop (i * 6) h)
  rw [lResultL, drop_flat cResultL 6 (fun _ => rfl) xs i x hi] at h
  generalize (vs.drop (i * 6)).take 6 = vs at h ⊢
  obtain ⟨x0, r, rfl, h0, h⟩ := cellsOk_cons h
  obtain ⟨x1, r, rfl, h1, h⟩ := cellsOk_cons h
  obtain ⟨x2, r, rfl, h2, h⟩ := cellsOk_cons h
  obtain ⟨x3, r, rfl, h3, h⟩ := cellsOk_cons h
  obtain ⟨x4, r, rfl, h4, h⟩ := cellsOk_cons h
  obtain ⟨x5, r, rfl, h5, h⟩ := cellsOk_cons h
  obtain rfl := cellsOk_nil h
  obtain rfl : x0 = .int .i64 x.move := h0
  obtain rfl : x1 = .int .i64 x.gain := h1
  obtain rfl : x2 = .bool x.again := h2
  exact ⟨x3, x4, x5, rfl, h3, h4, h5⟩
theorem lResultL_snoc (xs : List M.Res) (x : M.Res) : lResultL xs ++ cResultL x = lResultL (xs ++ [x]) := by simp [lResultL]
theorem lResultL_cut {u : World} {e c a b m : Nat} {A : Option Addr} {xs : List M.Res} (h : (Ty.sl e 6 xs.length (lResultL xs)).ok u (.slice A xs.length c)) (h1 : a ≤ b) (h2 : b ≤ xs.length) (h3 : b ≤ m) (h4 : m ≤ c) (hl : ((xs.drop a).take (b - a)).length = b - a) : (Ty.sl e 6 ((xs.drop a).take (b - a)).length (lResultL ((xs.drop a).take (b - a)))).ok u (.slice (cutA 6 A a m) ((xs.drop a).take (b - a)).length (m - a)) := by
  have := sl_cut h h1 h2 h3 h4
  unfold lResultL at this ⊢
  rw [flat_cut cResultL 6 (fun _ => rfl)] at this
  rw [hl]; exact this
def cOption (x : M.Opt) : List Ty := [Ty.int x.move, Ty.int x.value]
theorem open_Option {u : World} {v : Value} {x : M.Opt} (h : (Ty.agg (cOption x)).ok u v) : v = .agg #[.int .i64 x.move, .int .i64 x.value] := by
  obtain ⟨vs, rfl, h⟩ := h
  obtain ⟨x0, r, rfl, h0, h⟩ := cellsOk_cons h
  obtain ⟨x1, r, rfl, h1, h⟩ := cellsOk_cons h
  obtain rfl := cellsOk_nil h
  obtain rfl : x0 = .int .i64 x.move := h0
  obtain rfl : x1 = .int .i64 x.value := h1
  exact rfl
theorem ref_Option {u : World} {v : Value} {x : M.Opt} (h : (Ty.ref (cOption x)).ok u v) : ∃ b o, v = .pointer (some ⟨b, o, none⟩) ∧ RowAt u b o [.int .i64 x.move, .int .i64 x.value] := by
  obtain ⟨b, o, vs, rfl, h, hr⟩ := h
  obtain ⟨x0, r, rfl, h0, h⟩ := cellsOk_cons h
  obtain ⟨x1, r, rfl, h1, h⟩ := cellsOk_cons h
  obtain rfl := cellsOk_nil h
  obtain rfl : x0 = .int .i64 x.move := h0
  obtain rfl : x1 = .int .i64 x.value := h1
  exact ⟨b, o, rfl, hr⟩
theorem own_Option {u : World} {v : Value} {fp : List Nat} {x : M.Opt} (h : (Ty.agg (cOption x)).own u v fp) : v = .agg #[.int .i64 x.move, .int .i64 x.value] ∧ cellsOwn u (cOption x) [.int .i64 x.move, .int .i64 x.value] fp := by
  obtain ⟨vs, rfl, hc⟩ := h
  have h := hc.ok
  obtain ⟨x0, r, rfl, h0, h⟩ := cellsOk_cons h
  obtain ⟨x1, r, rfl, h1, h⟩ := cellsOk_cons h
  obtain rfl := cellsOk_nil h
  obtain rfl : x0 = .int .i64 x.move := h0
  obtain rfl : x1 = .int .i64 x.value := h1
  exact ⟨rfl, hc⟩
theorem Spl_Option (x : M.Opt) : Spl (Ty.agg (cOption x)) (fun v ow => ∃ f, v = .agg #[.int .i64 x.move, .int .i64 x.value] ∧ ow = [ownC (cOption x) [.int .i64 x.move, .int .i64 x.value] f]) := fun w v fp h => by
  obtain ⟨rfl, hc⟩ := own_Option h
  exact ⟨_, ⟨fp, rfl, rfl⟩, by simp [ownC], fun o ho => by simp at ho; subst ho; exact hc⟩
def lOption (xs : List M.Opt) : List Ty := xs.flatMap cOption
theorem lOption_length (xs : List M.Opt) : (lOption xs).length = xs.length * 2 := flat_len cOption 2 (fun _ => rfl) xs
theorem elem_Option {u : World} {e c i : Nat} {A : Option Addr} {xs : List M.Opt} {x : M.Opt} (h : (Ty.sl e 2 xs.length (lOption xs)).ok u (.slice A xs.length c)) (hi : xs[i]? = some x) : ∃ b o, elemA 2 (.slice A xs.length c) i = some ⟨b, o, none⟩ ∧ RowAt u b o [.int .i64 x.move, .int .i64 x.value] := by
  obtain ⟨b, o, vs, he, h, hr⟩ := sl_elem h (List.getElem?_eq_some_iff.1 hi).1 rfl
  have e := drop_flat cOption 2 (fun _ => rfl) xs i x hi
  unfold lOption at h
  rw [e] at h
  obtain ⟨x0, r, rfl, h0, h⟩ := cellsOk_cons h
  obtain ⟨x1, r, rfl, h1, h⟩ := cellsOk_cons h
  obtain rfl := cellsOk_nil h
  obtain rfl : x0 = .int .i64 x.move := h0
  obtain rfl : x1 = .int .i64 x.value := h1
  exact ⟨b, o, he, hr⟩
theorem elemv_Option {w : World} {i : Nat} {xs : List M.Opt} {x : M.Opt} {vs : List Value} (h : cellsOk w (lOption xs) vs) (hi : xs[i]? = some x) : (vs.drop (0 + i * 2)).take 2 = [.int .i64 x.move, .int .i64 x.value] := by
  rw [Nat.zero_add]
  have h := cellsOk.take 2 (cellsOk.drop (i * 2) h)
  rw [lOption, drop_flat cOption 2 (fun _ => rfl) xs i x hi] at h
  generalize (vs.drop (i * 2)).take 2 = vs at h ⊢
  obtain ⟨x0, r, rfl, h0, h⟩ := cellsOk_cons h
  obtain ⟨x1, r, rfl, h1, h⟩ := cellsOk_cons h
  obtain rfl := cellsOk_nil h
  obtain rfl : x0 = .int .i64 x.move := h0
  obtain rfl : x1 = .int .i64 x.value := h1
  exact rfl
theorem lOption_snoc (xs : List M.Opt) (x : M.Opt) : lOption xs ++ cOption x = lOption (xs ++ [x]) := by simp [lOption]
theorem lOption_cut {u : World} {e c a b m : Nat} {A : Option Addr} {xs : List M.Opt} (h : (Ty.sl e 2 xs.length (lOption xs)).ok u (.slice A xs.length c)) (h1 : a ≤ b) (h2 : b ≤ xs.length) (h3 : b ≤ m) (h4 : m ≤ c) (hl : ((xs.drop a).take (b - a)).length = b - a) : (Ty.sl e 2 ((xs.drop a).take (b - a)).length (lOption ((xs.drop a).take (b - a)))).ok u (.slice (cutA 2 A a m) ((xs.drop a).take (b - a)).length (m - a)) := by
  have := sl_cut h h1 h2 h3 h4
  unfold lOption at this ⊢
  rw [flat_cut cOption 2 (fun _ => rfl)] at this
  rw [hl]; exact this
theorem reval_Option {w : World} {x y : M.Opt} {a0 : Int} {a1 : Int} {f : List Nat} (h : cellsOwn w (cOption x) [.int .i64 a0, .int .i64 a1] f) : cellsOwn w (cOption y) [.int .i64 y.move, .int .i64 y.value] f := by
  obtain ⟨g0, r0, rfl, h0, h⟩ := h
  obtain ⟨g1, r1, rfl, h1, h⟩ := h
  obtain rfl : _ = [] := h
  obtain ⟨_, rfl⟩ := h0
  obtain ⟨_, rfl⟩ := h1
  exact ⟨[], [], rfl, ⟨rfl, rfl⟩, ⟨[], [], rfl, ⟨rfl, rfl⟩, rfl⟩⟩
def cPuzzle (x : M.Puz) : List Ty := [Ty.int x.rules.pits, Ty.int x.rules.seeds, Ty.bool x.rules.stores, Ty.bool x.rules.skip, Ty.bool x.rules.relay, Ty.bool x.rules.feed, Ty.bool x.rules.again, Ty.int x.rules.capture, Ty.int x.rules.slam, Ty.ints 2 x.position.pits, Ty.ints 2 x.position.stores, Ty.int x.position.player, Ty.int x.depth, Ty.int x.move, Ty.int x.value, Ty.int x.margin]
theorem open_Puzzle {u : World} {v : Value} {x : M.Puz} (h : (Ty.agg (cPuzzle x)).ok u v) : ∃ A9 c9 A10 c10, v = .agg #[.int .i64 x.rules.pits, .int .i64 x.rules.seeds, .bool x.rules.stores, .bool x.rules.skip, .bool x.rules.relay, .bool x.rules.feed, .bool x.rules.again, .int .i64 x.rules.capture, .int .i64 x.rules.slam, .slice A9 x.position.pits.length c9, .slice A10 x.position.stores.length c10, .int .i64 x.position.player, .int .i64 x.depth, .int .i64 x.move, .int .i64 x.value, .int .i64 x.margin] ∧ (Ty.ints 2 x.position.pits).ok u (.slice A9 x.position.pits.length c9) ∧ (Ty.ints 2 x.position.stores).ok u (.slice A10 x.position.stores.length c10) ∧ x.position.pits.length ≤ c9 ∧ c9 ≤ 9223372036854775807 ∧ x.position.stores.length ≤ c10 ∧ c10 ≤ 9223372036854775807 := by
  obtain ⟨vs, rfl, h⟩ := h
  obtain ⟨x0, r, rfl, h0, h⟩ := cellsOk_cons h
  obtain ⟨x1, r, rfl, h1, h⟩ := cellsOk_cons h
  obtain ⟨x2, r, rfl, h2, h⟩ := cellsOk_cons h
  obtain ⟨x3, r, rfl, h3, h⟩ := cellsOk_cons h
  obtain ⟨x4, r, rfl, h4, h⟩ := cellsOk_cons h
  obtain ⟨x5, r, rfl, h5, h⟩ := cellsOk_cons h
  obtain ⟨x6, r, rfl, h6, h⟩ := cellsOk_cons h
  obtain ⟨x7, r, rfl, h7, h⟩ := cellsOk_cons h
  obtain ⟨x8, r, rfl, h8, h⟩ := cellsOk_cons h
  obtain ⟨x9, r, rfl, h9, h⟩ := cellsOk_cons h
  obtain ⟨x10, r, rfl, h10, h⟩ := cellsOk_cons h
  obtain ⟨x11, r, rfl, h11, h⟩ := cellsOk_cons h
  obtain ⟨x12, r, rfl, h12, h⟩ := cellsOk_cons h
  obtain ⟨x13, r, rfl, h13, h⟩ := cellsOk_cons h
  obtain ⟨x14, r, rfl, h14, h⟩ := cellsOk_cons h
  obtain ⟨x15, r, rfl, h15, h⟩ := cellsOk_cons h
  obtain rfl := cellsOk_nil h
  obtain rfl : x0 = .int .i64 x.rules.pits := h0
  obtain rfl : x1 = .int .i64 x.rules.seeds := h1
  obtain rfl : x2 = .bool x.rules.stores := h2
  obtain rfl : x3 = .bool x.rules.skip := h3
  obtain rfl : x4 = .bool x.rules.relay := h4
  obtain rfl : x5 = .bool x.rules.feed := h5
  obtain rfl : x6 = .bool x.rules.again := h6
  obtain rfl : x7 = .int .i64 x.rules.capture := h7
  obtain rfl : x8 = .int .i64 x.rules.slam := h8
  obtain ⟨A9, c9, rfl, b9, d9⟩ := sl_form h9
  obtain ⟨A10, c10, rfl, b10, d10⟩ := sl_form h10
  obtain rfl : x11 = .int .i64 x.position.player := h11
  obtain rfl : x12 = .int .i64 x.depth := h12
  obtain rfl : x13 = .int .i64 x.move := h13
  obtain rfl : x14 = .int .i64 x.value := h14
  obtain rfl : x15 = .int .i64 x.margin := h15
  exact ⟨A9, c9, A10, c10, rfl, h9, h10, b9, d9, b10, d10⟩
theorem ref_Puzzle {u : World} {v : Value} {x : M.Puz} (h : (Ty.ref (cPuzzle x)).ok u v) : ∃ b o A9 c9 A10 c10, v = .pointer (some ⟨b, o, none⟩) ∧ RowAt u b o [.int .i64 x.rules.pits, .int .i64 x.rules.seeds, .bool x.rules.stores, .bool x.rules.skip, .bool x.rules.relay, .bool x.rules.feed, .bool x.rules.again, .int .i64 x.rules.capture, .int .i64 x.rules.slam, .slice A9 x.position.pits.length c9, .slice A10 x.position.stores.length c10, .int .i64 x.position.player, .int .i64 x.depth, .int .i64 x.move, .int .i64 x.value, .int .i64 x.margin] ∧ (Ty.ints 2 x.position.pits).ok u (.slice A9 x.position.pits.length c9) ∧ (Ty.ints 2 x.position.stores).ok u (.slice A10 x.position.stores.length c10) ∧ x.position.pits.length ≤ c9 ∧ c9 ≤ 9223372036854775807 ∧ x.position.stores.length ≤ c10 ∧ c10 ≤ 9223372036854775807 := by
  obtain ⟨b, o, vs, rfl, h, hr⟩ := h
  obtain ⟨x0, r, rfl, h0, h⟩ := cellsOk_cons h
  obtain ⟨x1, r, rfl, h1, h⟩ := cellsOk_cons h
  obtain ⟨x2, r, rfl, h2, h⟩ := cellsOk_cons h
  obtain ⟨x3, r, rfl, h3, h⟩ := cellsOk_cons h
  obtain ⟨x4, r, rfl, h4, h⟩ := cellsOk_cons h
  obtain ⟨x5, r, rfl, h5, h⟩ := cellsOk_cons h
  obtain ⟨x6, r, rfl, h6, h⟩ := cellsOk_cons h
  obtain ⟨x7, r, rfl, h7, h⟩ := cellsOk_cons h
  obtain ⟨x8, r, rfl, h8, h⟩ := cellsOk_cons h
  obtain ⟨x9, r, rfl, h9, h⟩ := cellsOk_cons h
  obtain ⟨x10, r, rfl, h10, h⟩ := cellsOk_cons h
  obtain ⟨x11, r, rfl, h11, h⟩ := cellsOk_cons h
  obtain ⟨x12, r, rfl, h12, h⟩ := cellsOk_cons h
  obtain ⟨x13, r, rfl, h13, h⟩ := cellsOk_cons h
  obtain ⟨x14, r, rfl, h14, h⟩ := cellsOk_cons h
  obtain ⟨x15, r, rfl, h15, h⟩ := cellsOk_cons h
  obtain rfl := cellsOk_nil h
  obtain rfl : x0 = .int .i64 x.rules.pits := h0
  obtain rfl : x1 = .int .i64 x.rules.seeds := h1
  obtain rfl : x2 = .bool x.rules.stores := h2
  obtain rfl : x3 = .bool x.rules.skip := h3
  obtain rfl : x4 = .bool x.rules.relay := h4
  obtain rfl : x5 = .bool x.rules.feed := h5
  obtain rfl : x6 = .bool x.rules.again := h6
  obtain rfl : x7 = .int .i64 x.rules.capture := h7
  obtain rfl : x8 = .int .i64 x.rules.slam := h8
  obtain ⟨A9, c9, rfl, b9, d9⟩ := sl_form h9
  obtain ⟨A10, c10, rfl, b10, d10⟩ := sl_form h10
  obtain rfl : x11 = .int .i64 x.position.player := h11
  obtain rfl : x12 = .int .i64 x.depth := h12
  obtain rfl : x13 = .int .i64 x.move := h13
  obtain rfl : x14 = .int .i64 x.value := h14
  obtain rfl : x15 = .int .i64 x.margin := h15
  exact ⟨b, o, A9, c9, A10, c10, rfl, hr, h9, h10, b9, d9, b10, d10⟩
theorem own_Puzzle {u : World} {v : Value} {fp : List Nat} {x : M.Puz} (h : (Ty.agg (cPuzzle x)).own u v fp) : ∃ A9 c9 A10 c10, v = .agg #[.int .i64 x.rules.pits, .int .i64 x.rules.seeds, .bool x.rules.stores, .bool x.rules.skip, .bool x.rules.relay, .bool x.rules.feed, .bool x.rules.again, .int .i64 x.rules.capture, .int .i64 x.rules.slam, .slice A9 x.position.pits.length c9, .slice A10 x.position.stores.length c10, .int .i64 x.position.player, .int .i64 x.depth, .int .i64 x.move, .int .i64 x.value, .int .i64 x.margin] ∧ cellsOwn u (cPuzzle x) [.int .i64 x.rules.pits, .int .i64 x.rules.seeds, .bool x.rules.stores, .bool x.rules.skip, .bool x.rules.relay, .bool x.rules.feed, .bool x.rules.again, .int .i64 x.rules.capture, .int .i64 x.rules.slam, .slice A9 x.position.pits.length c9, .slice A10 x.position.stores.length c10, .int .i64 x.position.player, .int .i64 x.depth, .int .i64 x.move, .int .i64 x.value, .int .i64 x.margin] fp ∧ x.position.pits.length ≤ c9 ∧ c9 ≤ 9223372036854775807 ∧ x.position.stores.length ≤ c10 ∧ c10 ≤ 9223372036854775807 := by
  obtain ⟨vs, rfl, hc⟩ := h
  have h := hc.ok
  obtain ⟨x0, r, rfl, h0, h⟩ := cellsOk_cons h
  obtain ⟨x1, r, rfl, h1, h⟩ := cellsOk_cons h
  obtain ⟨x2, r, rfl, h2, h⟩ := cellsOk_cons h
  obtain ⟨x3, r, rfl, h3, h⟩ := cellsOk_cons h
  obtain ⟨x4, r, rfl, h4, h⟩ := cellsOk_cons h
  obtain ⟨x5, r, rfl, h5, h⟩ := cellsOk_cons h
  obtain ⟨x6, r, rfl, h6, h⟩ := cellsOk_cons h
  obtain ⟨x7, r, rfl, h7, h⟩ := cellsOk_cons h
  obtain ⟨x8, r, rfl, h8, h⟩ := cellsOk_cons h
  obtain ⟨x9, r, rfl, h9, h⟩ := cellsOk_cons h
  obtain ⟨x10, r, rfl, h10, h⟩ := cellsOk_cons h
  obtain ⟨x11, r, rfl, h11, h⟩ := cellsOk_cons h
  obtain ⟨x12, r, rfl, h12, h⟩ := cellsOk_cons h
  obtain ⟨x13, r, rfl, h13, h⟩ := cellsOk_cons h
  obtain ⟨x14, r, rfl, h14, h⟩ := cellsOk_cons h
  obtain ⟨x15, r, rfl, h15, h⟩ := cellsOk_cons h
  obtain rfl := cellsOk_nil h
  obtain rfl : x0 = .int .i64 x.rules.pits := h0
  obtain rfl : x1 = .int .i64 x.rules.seeds := h1
  obtain rfl : x2 = .bool x.rules.stores := h2
  obtain rfl : x3 = .bool x.rules.skip := h3
  obtain rfl : x4 = .bool x.rules.relay := h4
  obtain rfl : x5 = .bool x.rules.feed := h5
  obtain rfl : x6 = .bool x.rules.again := h6
  obtain rfl : x7 = .int .i64 x.rules.capture := h7
  obtain rfl : x8 = .int .i64 x.rules.slam := h8
  obtain ⟨A9, c9, rfl, b9, d9⟩ := sl_form h9
  obtain ⟨A10, c10, rfl, b10, d10⟩ := sl_form h10
  obtain rfl : x11 = .int .i64 x.position.player := h11
  obtain rfl : x12 = .int .i64 x.depth := h12
  obtain rfl : x13 = .int .i64 x.move := h13
  obtain rfl : x14 = .int .i64 x.value := h14
  obtain rfl : x15 = .int .i64 x.margin := h15
  exact ⟨A9, c9, A10, c10, rfl, hc, b9, d9, b10, d10⟩
theorem Spl_Puzzle (x : M.Puz) : Spl (Ty.agg (cPuzzle x)) (fun v ow => ∃ A9 c9 A10 c10 f, v = .agg #[.int .i64 x.rules.pits, .int .i64 x.rules.seeds, .bool x.rules.stores, .bool x.rules.skip, .bool x.rules.relay, .bool x.rules.feed, .bool x.rules.again, .int .i64 x.rules.capture, .int .i64 x.rules.slam, .slice A9 x.position.pits.length c9, .slice A10 x.position.stores.length c10, .int .i64 x.position.player, .int .i64 x.depth, .int .i64 x.move, .int .i64 x.value, .int .i64 x.margin] ∧ ow = [ownC (cPuzzle x) [.int .i64 x.rules.pits, .int .i64 x.rules.seeds, .bool x.rules.stores, .bool x.rules.skip, .bool x.rules.relay, .bool x.rules.feed, .bool x.rules.again, .int .i64 x.rules.capture, .int .i64 x.rules.slam, .slice A9 x.position.pits.length c9, .slice A10 x.position.stores.length c10, .int .i64 x.position.player, .int .i64 x.depth, .int .i64 x.move, .int .i64 x.value, .int .i64 x.margin] f] ∧ x.position.pits.length ≤ c9 ∧ c9 ≤ 9223372036854775807 ∧ x.position.stores.length ≤ c10 ∧ c10 ≤ 9223372036854775807) := fun w v fp h => by
  obtain ⟨A9, c9, A10, c10, rfl, hc, b9, d9, b10, d10⟩ := own_Puzzle h
  exact ⟨_, ⟨A9, c9, A10, c10, fp, rfl, rfl, b9, d9, b10, d10⟩, by simp [ownC], fun o ho => by simp at ho; subst ho; exact hc⟩
def lPuzzle (xs : List M.Puz) : List Ty := xs.flatMap cPuzzle
theorem lPuzzle_length (xs : List M.Puz) : (lPuzzle xs).length = xs.length * 16 := flat_len cPuzzle 16 (fun _ => rfl) xs
theorem elem_Puzzle {u : World} {e c i : Nat} {A : Option Addr} {xs : List M.Puz} {x : M.Puz} (h : (Ty.sl e 16 xs.length (lPuzzle xs)).ok u (.slice A xs.length c)) (hi : xs[i]? = some x) : ∃ b o A9 c9 A10 c10, elemA 16 (.slice A xs.length c) i = some ⟨b, o, none⟩ ∧ RowAt u b o [.int .i64 x.rules.pits, .int .i64 x.rules.seeds, .bool x.rules.stores, .bool x.rules.skip, .bool x.rules.relay, .bool x.rules.feed, .bool x.rules.again, .int .i64 x.rules.capture, .int .i64 x.rules.slam, .slice A9 x.position.pits.length c9, .slice A10 x.position.stores.length c10, .int .i64 x.position.player, .int .i64 x.depth, .int .i64 x.move, .int .i64 x.value, .int .i64 x.margin] ∧ (Ty.ints 2 x.position.pits).ok u (.slice A9 x.position.pits.length c9) ∧ (Ty.ints 2 x.position.stores).ok u (.slice A10 x.position.stores.length c10) ∧ x.position.pits.length ≤ c9 ∧ c9 ≤ 9223372036854775807 ∧ x.position.stores.length ≤ c10 ∧ c10 ≤ 9223372036854775807 := by
  obtain ⟨b, o, vs, he, h, hr⟩ := sl_elem h (List.getElem?_eq_some_iff.1 hi).1 rfl
  have e := drop_flat cPuzzle 16 (fun _ => rfl) xs i x hi
  unfold lPuzzle at h
  rw [e] at h
  obtain ⟨x0, r, rfl, h0, h⟩ := cellsOk_cons h
  obtain ⟨x1, r, rfl, h1, h⟩ := cellsOk_cons h
  obtain ⟨x2, r, rfl, h2, h⟩ := cellsOk_cons h
  obtain ⟨x3, r, rfl, h3, h⟩ := cellsOk_cons h
  obtain ⟨x4, r, rfl, h4, h⟩ := cellsOk_cons h
  obtain ⟨x5, r, rfl, h5, h⟩ := cellsOk_cons h
  obtain ⟨x6, r, rfl, h6, h⟩ := cellsOk_cons h
  obtain ⟨x7, r, rfl, h7, h⟩ := cellsOk_cons h
  obtain ⟨x8, r, rfl, h8, h⟩ := cellsOk_cons h
  obtain ⟨x9, r, rfl, h9, h⟩ := cellsOk_cons h
  obtain ⟨x10, r, rfl, h10, h⟩ := cellsOk_cons h
  obtain ⟨x11, r, rfl, h11, h⟩ := cellsOk_cons h
  obtain ⟨x12, r, rfl, h12, h⟩ := cellsOk_cons h
  obtain ⟨x13, r, rfl, h13, h⟩ := cellsOk_cons h
  obtain ⟨x14, r, rfl, h14, h⟩ := cellsOk_cons h
  obtain ⟨x15, r, rfl, h15, h⟩ := cellsOk_cons h
  obtain rfl := cellsOk_nil h
  obtain rfl : x0 = .int .i64 x.rules.pits := h0
  obtain rfl : x1 = .int .i64 x.rules.seeds := h1
  obtain rfl : x2 = .bool x.rules.stores := h2
  obtain rfl : x3 = .bool x.rules.skip := h3
  obtain rfl : x4 = .bool x.rules.relay := h4
  obtain rfl : x5 = .bool x.rules.feed := h5
  obtain rfl : x6 = .bool x.rules.again := h6
  obtain rfl : x7 = .int .i64 x.rules.capture := h7
  obtain rfl : x8 = .int .i64 x.rules.slam := h8
  obtain ⟨A9, c9, rfl, b9, d9⟩ := sl_form h9
  obtain ⟨A10, c10, rfl, b10, d10⟩ := sl_form h10
  obtain rfl : x11 = .int .i64 x.position.player := h11
  obtain rfl : x12 = .int .i64 x.depth := h12
  obtain rfl : x13 = .int .i64 x.move := h13
  obtain rfl : x14 = .int .i64 x.value := h14
  obtain rfl : x15 = .int .i64 x.margin := h15
  exact ⟨b, o, A9, c9, A10, c10, he, hr, h9, h10, b9, d9, b10, d10⟩
theorem elemv_Puzzle {w : World} {i : Nat} {xs : List M.Puz} {x : M.Puz} {vs : List Value} (h : cellsOk w (lPuzzle xs) vs) (hi : xs[i]? = some x) : ∃ A9 c9 A10 c10, (vs.drop (0 + i * 16)).take 16 = [.int .i64 x.rules.pits, .int .i64 x.rules.seeds, .bool x.rules.stores, .bool x.rules.skip, .bool x.rules.relay, .bool x.rules.feed, .bool x.rules.again, .int .i64 x.rules.capture, .int .i64 x.rules.slam, .slice A9 x.position.pits.length c9, .slice A10 x.position.stores.length c10, .int .i64 x.position.player, .int .i64 x.depth, .int .i64 x.move, .int .i64 x.value, .int .i64 x.margin] ∧ x.position.pits.length ≤ c9 ∧ c9 ≤ 9223372036854775807 ∧ x.position.stores.length ≤ c10 ∧ c10 ≤ 9223372036854775807 := by
  rw [Nat.zero_add]
  have h := cellsOk.take 16 (cellsOk.drop (i * 16) h)
  rw [lPuzzle, drop_flat cPuzzle 16 (fun _ => rfl) xs i x hi] at h
  generalize (vs.drop (i * 16)).take 16 = vs at h ⊢
  obtain ⟨x0, r, rfl, h0, h⟩ := cellsOk_cons h
  obtain ⟨x1, r, rfl, h1, h⟩ := cellsOk_cons h
  obtain ⟨x2, r, rfl, h2, h⟩ := cellsOk_cons h
  obtain ⟨x3, r, rfl, h3, h⟩ := cellsOk_cons h
  obtain ⟨x4, r, rfl, h4, h⟩ := cellsOk_cons h
  obtain ⟨x5, r, rfl, h5, h⟩ := cellsOk_cons h
  obtain ⟨x6, r, rfl, h6, h⟩ := cellsOk_cons h
  obtain ⟨x7, r, rfl, h7, h⟩ := cellsOk_cons h
  obtain ⟨x8, r, rfl, h8, h⟩ := cellsOk_cons h
  obtain ⟨x9, r, rfl, h9, h⟩ := cellsOk_cons h
  obtain ⟨x10, r, rfl, h10, h⟩ := cellsOk_cons h
  obtain ⟨x11, r, rfl, h11, h⟩ := cellsOk_cons h
  obtain ⟨x12, r, rfl, h12, h⟩ := cellsOk_cons h
  obtain ⟨x13, r, rfl, h13, h⟩ := cellsOk_cons h
  obtain ⟨x14, r, rfl, h14, h⟩ := cellsOk_cons h
  obtain ⟨x15, r, rfl, h15, h⟩ := cellsOk_cons h
  obtain rfl := cellsOk_nil h
  obtain rfl : x0 = .int .i64 x.rules.pits := h0
  obtain rfl : x1 = .int .i64 x.rules.seeds := h1
  obtain rfl : x2 = .bool x.rules.stores := h2
  obtain rfl : x3 = .bool x.rules.skip := h3
  obtain rfl : x4 = .bool x.rules.relay := h4
  obtain rfl : x5 = .bool x.rules.feed := h5
  obtain rfl : x6 = .bool x.rules.again := h6
  obtain rfl : x7 = .int .i64 x.rules.capture := h7
  obtain rfl : x8 = .int .i64 x.rules.slam := h8
  obtain ⟨A9, c9, rfl, b9, d9⟩ := sl_form h9
  obtain ⟨A10, c10, rfl, b10, d10⟩ := sl_form h10
  obtain rfl : x11 = .int .i64 x.position.player := h11
  obtain rfl : x12 = .int .i64 x.depth := h12
  obtain rfl : x13 = .int .i64 x.move := h13
  obtain rfl : x14 = .int .i64 x.value := h14
  obtain rfl : x15 = .int .i64 x.margin := h15
  exact ⟨A9, c9, A10, c10, rfl, b9, d9, b10, d10⟩
theorem lPuzzle_snoc (xs : List M.Puz) (x : M.Puz) : lPuzzle xs ++ cPuzzle x = lPuzzle (xs ++ [x]) := by simp [lPuzzle]
theorem lPuzzle_cut {u : World} {e c a b m : Nat} {A : Option Addr} {xs : List M.Puz} (h : (Ty.sl e 16 xs.length (lPuzzle xs)).ok u (.slice A xs.length c)) (h1 : a ≤ b) (h2 : b ≤ xs.length) (h3 : b ≤ m) (h4 : m ≤ c) (hl : ((xs.drop a).take (b - a)).length = b - a) : (Ty.sl e 16 ((xs.drop a).take (b - a)).length (lPuzzle ((xs.drop a).take (b - a)))).ok u (.slice (cutA 16 A a m) ((xs.drop a).take (b - a)).length (m - a)) := by
  have := sl_cut h h1 h2 h3 h4
  unfold lPuzzle at this ⊢
  rw [flat_cut cPuzzle 16 (fun _ => rfl)] at this
  rw [hl]; exact this
theorem pack_Puzzle {w : World} {x : M.Puz} {v1 v2 : Value} {f1 f2 : List Nat} (h1 : (Ty.ints 2 x.position.pits).own w v1 f1) (h2 : (Ty.ints 2 x.position.stores).own w v2 f2) : cellsOwn w (cPuzzle x) [.int .i64 x.rules.pits, .int .i64 x.rules.seeds, .bool x.rules.stores, .bool x.rules.skip, .bool x.rules.relay, .bool x.rules.feed, .bool x.rules.again, .int .i64 x.rules.capture, .int .i64 x.rules.slam, v1, v2, .int .i64 x.position.player, .int .i64 x.depth, .int .i64 x.move, .int .i64 x.value, .int .i64 x.margin] (f1 ++ f2) :=
  ⟨[], f1 ++ f2, rfl, ⟨rfl, rfl⟩, ⟨[], f1 ++ f2, rfl, ⟨rfl, rfl⟩, ⟨[], f1 ++ f2, rfl, ⟨rfl, rfl⟩, ⟨[], f1 ++ f2, rfl, ⟨rfl, rfl⟩, ⟨[], f1 ++ f2, rfl, ⟨rfl, rfl⟩, ⟨[], f1 ++ f2, rfl, ⟨rfl, rfl⟩, ⟨[], f1 ++ f2, rfl, ⟨rfl, rfl⟩, ⟨[], f1 ++ f2, rfl, ⟨rfl, rfl⟩, ⟨[], f1 ++ f2, rfl, ⟨rfl, rfl⟩, ⟨f1, f2, rfl, h1, ⟨f2, [], (List.append_nil _).symm, h2, ⟨[], [], rfl, ⟨rfl, rfl⟩, ⟨[], [], rfl, ⟨rfl, rfl⟩, ⟨[], [], rfl, ⟨rfl, rfl⟩, ⟨[], [], rfl, ⟨rfl, rfl⟩, ⟨[], [], rfl, ⟨rfl, rfl⟩, rfl⟩⟩⟩⟩⟩⟩⟩⟩⟩⟩⟩⟩⟩⟩⟩⟩
theorem unpack_Puzzle {w : World} {x : M.Puz} {A9 A10 : Option Addr} {m9 m10 c9 c10 : Nat} {f : List Nat} (h : cellsOwn w (cPuzzle x) [.int .i64 x.rules.pits, .int .i64 x.rules.seeds, .bool x.rules.stores, .bool x.rules.skip, .bool x.rules.relay, .bool x.rules.feed, .bool x.rules.again, .int .i64 x.rules.capture, .int .i64 x.rules.slam, .slice A9 m9 c9, .slice A10 m10 c10, .int .i64 x.position.player, .int .i64 x.depth, .int .i64 x.move, .int .i64 x.value, .int .i64 x.margin] f) : (rowO 2 1 (.slice A9 m9 c9) m9 (ints_ x.position.pits) []).pr w ∧ (rowO 2 1 (.slice A10 m10 c10) m10 (ints_ x.position.stores) []).pr w ∧ f = (rowO 2 1 (.slice A9 m9 c9) m9 (ints_ x.position.pits) []).fp ++ (rowO 2 1 (.slice A10 m10 c10) m10 (ints_ x.position.stores) []).fp := by
  obtain ⟨g0, r0, rfl, h0, h⟩ := h
  obtain ⟨g1, r1, rfl, h1, h⟩ := h
  obtain ⟨g2, r2, rfl, h2, h⟩ := h
  obtain ⟨g3, r3, rfl, h3, h⟩ := h
  obtain ⟨g4, r4, rfl, h4, h⟩ := h
  obtain ⟨g5, r5, rfl, h5, h⟩ := h
  obtain ⟨g6, r6, rfl, h6, h⟩ := h
  obtain ⟨g7, r7, rfl, h7, h⟩ := h
  obtain ⟨g8, r8, rfl, h8, h⟩ := h
  obtain ⟨g9, r9, rfl, h9, h⟩ := h
  obtain ⟨g10, r10, rfl, h10, h⟩ := h
  obtain ⟨g11, r11, rfl, h11, h⟩ := h
  obtain ⟨g12, r12, rfl, h12, h⟩ := h
  obtain ⟨g13, r13, rfl, h13, h⟩ := h
  obtain ⟨g14, r14, rfl, h14, h⟩ := h
  obtain ⟨g15, r15, rfl, h15, h⟩ := h
  obtain rfl : _ = [] := h
  obtain ⟨_, rfl⟩ := h0
  obtain ⟨_, rfl⟩ := h1
  obtain ⟨_, rfl⟩ := h2
  obtain ⟨_, rfl⟩ := h3
  obtain ⟨_, rfl⟩ := h4
  obtain ⟨_, rfl⟩ := h5
  obtain ⟨_, rfl⟩ := h6
  obtain ⟨_, rfl⟩ := h7
  obtain ⟨_, rfl⟩ := h8
  obtain ⟨_, rfl⟩ := h11
  obtain ⟨_, rfl⟩ := h12
  obtain ⟨_, rfl⟩ := h13
  obtain ⟨_, rfl⟩ := h14
  obtain ⟨_, rfl⟩ := h15
  have a := ints_open h9
  have b := ints_open h10
  exact ⟨a.1, b.1, by rw [← a.2, ← b.2]; simp⟩
end Go.Proofs.Ytinkeciedmjjmaa

/- The table of types of the program, and what the types of the model are. -/
import Derived.Test.YtejnmechnhgmfaaZaF12
import Derived.Test.YtejnmechnhgmfaaProg
set_option linter.unusedSimpArgs false
set_option linter.unusedVariables false
namespace Go.Proofs.Ytejnmechnhgmfaa
open Go.RowKit

theorem cellsOk_cons {w : World} {T : Ty} {Ts : List Ty} : ∀ {vs : List Value}, cellsOk w (T :: Ts) vs → ∃ x r, vs = x :: r ∧ T.ok w x ∧ cellsOk w Ts r
  | x :: r, h => ⟨x, r, rfl, h.1, h.2⟩
theorem cellsOk_nil {w : World} : ∀ {vs : List Value}, cellsOk w [] vs → vs = []
  | [], _ => rfl
theorem drop_flat {α β : Type} (f : α → List β) (k : Nat) (hf : ∀ a, (f a).length = k) : ∀ (l : List α) (i : Nat) (a : α), l[i]? = some a → ((l.flatMap f).drop (i * k)).take k = f a
  | x :: l, 0, a, h => by
    simp at h; subst h
    simp [List.flatMap_cons, hf, List.take_append]
  | x :: l, i + 1, a, h => by
    simp at h
    rw [List.flatMap_cons, Nat.succ_mul, Nat.add_comm, ← List.drop_drop, List.drop_left' (hf x)]
    exact drop_flat f k hf l i a h
  | [], _, _, h => by simp at h
theorem flat_len {α β : Type} (f : α → List β) (k : Nat) (hf : ∀ a, (f a).length = k) : ∀ (l : List α), (l.flatMap f).length = l.length * k
  | [] => by simp
  | x :: l => by rw [List.flatMap_cons, List.length_append, hf, flat_len f k hf l, List.length_cons, Nat.succ_mul, Nat.add_comm]

theorem ty_2 : tyOf Try.prog 2 = some (false, 1) := by kernel_rfl
theorem ty_4 : tyOf Try.prog 4 = some (false, 1) := by kernel_rfl
theorem ty_23 : tyOf Try.prog 23 = some (true, 9) := by kernel_rfl
theorem ty_24 : tyOf Try.prog 24 = some (false, 1) := by kernel_rfl
theorem ty_26 : tyOf Try.prog 26 = some (true, 3) := by kernel_rfl
theorem ty_28 : tyOf Try.prog 28 = some (true, 17) := by kernel_rfl
theorem ty_32 : tyOf Try.prog 32 = some (true, 9) := by kernel_rfl
theorem ty_33 : tyOf Try.prog 33 = some (true, 3) := by kernel_rfl
theorem ty_35 : tyOf Try.prog 35 = some (true, 17) := by kernel_rfl
theorem ty_84 : tyOf Try.prog 84 = some (true, 6) := by kernel_rfl
theorem ty_129 : tyOf Try.prog 129 = some (true, 4) := by kernel_rfl
theorem fld_23_0 : fldOf Try.prog 23 0 = some (0, 2, false, 1) := by kernel_rfl
theorem fld_23_1 : fldOf Try.prog 23 1 = some (1, 2, false, 1) := by kernel_rfl
theorem fld_23_2 : fldOf Try.prog 23 2 = some (2, 4, false, 1) := by kernel_rfl
theorem fld_23_3 : fldOf Try.prog 23 3 = some (3, 4, false, 1) := by kernel_rfl
theorem fld_23_4 : fldOf Try.prog 23 4 = some (4, 4, false, 1) := by kernel_rfl
theorem fld_23_5 : fldOf Try.prog 23 5 = some (5, 4, false, 1) := by kernel_rfl
theorem fld_23_6 : fldOf Try.prog 23 6 = some (6, 4, false, 1) := by kernel_rfl
theorem fld_23_7 : fldOf Try.prog 23 7 = some (7, 2, false, 1) := by kernel_rfl
theorem fld_23_8 : fldOf Try.prog 23 8 = some (8, 2, false, 1) := by kernel_rfl
theorem fld_26_0 : fldOf Try.prog 26 0 = some (0, 24, false, 1) := by kernel_rfl
theorem fld_26_1 : fldOf Try.prog 26 1 = some (1, 24, false, 1) := by kernel_rfl
theorem fld_26_2 : fldOf Try.prog 26 2 = some (2, 2, false, 1) := by kernel_rfl
theorem fld_28_0 : fldOf Try.prog 28 0 = some (0, 23, true, 9) := by kernel_rfl
theorem fld_28_1 : fldOf Try.prog 28 1 = some (9, 26, true, 3) := by kernel_rfl
theorem fld_28_2 : fldOf Try.prog 28 2 = some (12, 24, false, 1) := by kernel_rfl
theorem fld_28_3 : fldOf Try.prog 28 3 = some (13, 26, true, 3) := by kernel_rfl
theorem fld_28_4 : fldOf Try.prog 28 4 = some (16, 2, false, 1) := by kernel_rfl
theorem fld_32_0 : fldOf Try.prog 32 0 = some (0, 2, false, 1) := by kernel_rfl
theorem fld_32_1 : fldOf Try.prog 32 1 = some (1, 2, false, 1) := by kernel_rfl
theorem fld_32_2 : fldOf Try.prog 32 2 = some (2, 4, false, 1) := by kernel_rfl
theorem fld_32_3 : fldOf Try.prog 32 3 = some (3, 4, false, 1) := by kernel_rfl
theorem fld_32_4 : fldOf Try.prog 32 4 = some (4, 4, false, 1) := by kernel_rfl
theorem fld_32_5 : fldOf Try.prog 32 5 = some (5, 4, false, 1) := by kernel_rfl
theorem fld_32_6 : fldOf Try.prog 32 6 = some (6, 4, false, 1) := by kernel_rfl
theorem fld_32_7 : fldOf Try.prog 32 7 = some (7, 2, false, 1) := by kernel_rfl
theorem fld_32_8 : fldOf Try.prog 32 8 = some (8, 2, false, 1) := by kernel_rfl
theorem fld_33_0 : fldOf Try.prog 33 0 = some (0, 24, false, 1) := by kernel_rfl
theorem fld_33_1 : fldOf Try.prog 33 1 = some (1, 24, false, 1) := by kernel_rfl
theorem fld_33_2 : fldOf Try.prog 33 2 = some (2, 2, false, 1) := by kernel_rfl
theorem fld_35_0 : fldOf Try.prog 35 0 = some (0, 32, true, 9) := by kernel_rfl
theorem fld_35_1 : fldOf Try.prog 35 1 = some (9, 33, true, 3) := by kernel_rfl
theorem fld_35_2 : fldOf Try.prog 35 2 = some (12, 24, false, 1) := by kernel_rfl
theorem fld_35_3 : fldOf Try.prog 35 3 = some (13, 33, true, 3) := by kernel_rfl
theorem fld_35_4 : fldOf Try.prog 35 4 = some (16, 2, false, 1) := by kernel_rfl
theorem fld_84_0 : fldOf Try.prog 84 0 = some (0, 2, false, 1) := by kernel_rfl
theorem fld_84_1 : fldOf Try.prog 84 1 = some (1, 2, false, 1) := by kernel_rfl
theorem fld_84_2 : fldOf Try.prog 84 2 = some (2, 4, false, 1) := by kernel_rfl
theorem fld_84_3 : fldOf Try.prog 84 3 = some (3, 33, true, 3) := by kernel_rfl
theorem fld_129_0 : fldOf Try.prog 129 0 = some (0, 24, false, 1) := by kernel_rfl
theorem fld_129_1 : fldOf Try.prog 129 1 = some (1, 24, false, 1) := by kernel_rfl
theorem fld_129_2 : fldOf Try.prog 129 2 = some (2, 2, false, 1) := by kernel_rfl
theorem fld_129_3 : fldOf Try.prog 129 3 = some (3, 2, false, 1) := by kernel_rfl
theorem fld_160_0 : fldOf Try.prog 160 0 = some (0, 32, true, 9) := by kernel_rfl
theorem fld_160_1 : fldOf Try.prog 160 1 = some (9, 2, false, 1) := by kernel_rfl
theorem fld_160_2 : fldOf Try.prog 160 2 = some (10, 129, true, 4) := by kernel_rfl
theorem fld_160_3 : fldOf Try.prog 160 3 = some (14, 24, false, 1) := by kernel_rfl
theorem el_24 : elOf Try.prog 24 = some (2, 1, 8, [.int .i64 0]) := by kernel_rfl
theorem el_44 : elOf Try.prog 44 = some (33, 3, 56, [.slice none 0 0, .slice none 0 0, .int .i64 0]) := by kernel_rfl
theorem el_74 : elOf Try.prog 74 = some (84, 6, 80, [.int .i64 0, .int .i64 0, .bool false, .slice none 0 0, .slice none 0 0, .int .i64 0]) := by kernel_rfl
theorem zero_32 : zeroOf Try.prog 32 = some [.int .i64 0, .int .i64 0, .bool false, .bool false, .bool false, .bool false, .bool false, .int .i64 0, .int .i64 0] := by kernel_rfl
theorem zero_33 : zeroOf Try.prog 33 = some [.slice none 0 0, .slice none 0 0, .int .i64 0] := by kernel_rfl
theorem zero_35 : zeroOf Try.prog 35 = some [.int .i64 0, .int .i64 0, .bool false, .bool false, .bool false, .bool false, .bool false, .int .i64 0, .int .i64 0, .slice none 0 0, .slice none 0 0, .int .i64 0, .slice none 0 0, .slice none 0 0, .slice none 0 0, .int .i64 0, .int .i64 0] := by kernel_rfl
theorem zero_84 : zeroOf Try.prog 84 = some [.int .i64 0, .int .i64 0, .bool false, .slice none 0 0, .slice none 0 0, .int .i64 0] := by kernel_rfl
theorem zero_129 : zeroOf Try.prog 129 = some [.slice none 0 0, .slice none 0 0, .int .i64 0, .int .i64 0] := by kernel_rfl
theorem zero_160 : zeroOf Try.prog 160 = some [.int .i64 0, .int .i64 0, .bool false, .bool false, .bool false, .bool false, .bool false, .int .i64 0, .int .i64 0, .int .i64 0, .slice none 0 0, .slice none 0 0, .int .i64 0, .int .i64 0, .slice none 0 0] := by kernel_rfl
theorem flds_33 : fldsOf Try.prog 33 = some [(0, 1), (1, 1), (2, 1)] := by kernel_rfl
theorem flds_35 : fldsOf Try.prog 35 = some [(0, 9), (9, 3), (12, 1), (13, 3), (16, 1)] := by kernel_rfl
theorem flds_84 : fldsOf Try.prog 84 = some [(0, 1), (1, 1), (2, 1), (3, 3)] := by kernel_rfl
theorem flds_129 : fldsOf Try.prog 129 = some [(0, 1), (1, 1), (2, 1), (3, 1)] := by kernel_rfl
theorem flds_160 : fldsOf Try.prog 160 = some [(0, 9), (9, 1), (10, 4), (14, 1)] := by kernel_rfl
theorem fn_17 : goodF Try.prog 17 = true := by kernel_rfl
theorem fn_19 : goodF Try.prog 19 = true := by kernel_rfl
theorem fn_21 : goodF Try.prog 21 = true := by kernel_rfl
theorem fn_24 : goodF Try.prog 24 = true := by kernel_rfl
theorem fn_25 : goodF Try.prog 25 = true := by kernel_rfl
theorem fn_26 : goodF Try.prog 26 = true := by kernel_rfl
theorem fn_27 : goodF Try.prog 27 = true := by kernel_rfl
theorem fn_37 : goodF Try.prog 37 = true := by kernel_rfl
theorem fn_38 : goodF Try.prog 38 = true := by kernel_rfl
theorem fn_39 : goodF Try.prog 39 = true := by kernel_rfl
theorem fn_44 : goodF Try.prog 44 = true := by kernel_rfl
theorem fn_45 : goodF Try.prog 45 = true := by kernel_rfl
theorem fn_46 : goodF Try.prog 46 = true := by kernel_rfl
theorem fn_53 : goodF Try.prog 53 = true := by kernel_rfl
theorem fn_54 : goodF Try.prog 54 = true := by kernel_rfl
theorem fn_55 : goodF Try.prog 55 = true := by kernel_rfl
theorem fn_56 : goodF Try.prog 56 = true := by kernel_rfl
theorem fn_57 : goodF Try.prog 57 = true := by kernel_rfl
theorem fn_62 : goodF Try.prog 62 = true := by kernel_rfl
theorem fn_66 : goodF Try.prog 66 = true := by kernel_rfl
theorem fn_67 : goodF Try.prog 67 = true := by kernel_rfl
theorem fn_68 : goodF Try.prog 68 = true := by kernel_rfl
theorem fn_69 : goodF Try.prog 69 = true := by kernel_rfl
theorem fn_70 : goodF Try.prog 70 = true := by kernel_rfl
theorem fn_71 : goodF Try.prog 71 = true := by kernel_rfl
theorem fn_72 : goodF Try.prog 72 = true := by kernel_rfl
theorem fn_73 : goodF Try.prog 73 = true := by kernel_rfl
theorem fn_74 : goodF Try.prog 74 = true := by kernel_rfl
theorem fn_75 : goodF Try.prog 75 = true := by kernel_rfl
theorem fn_76 : goodF Try.prog 76 = true := by kernel_rfl
theorem fn_77 : goodF Try.prog 77 = true := by kernel_rfl
theorem fn_78 : goodF Try.prog 78 = true := by kernel_rfl
theorem fn_79 : goodF Try.prog 79 = true := by kernel_rfl
theorem fn_80 : goodF Try.prog 80 = true := by kernel_rfl
theorem fn_81 : goodF Try.prog 81 = true := by kernel_rfl
theorem fn_82 : goodF Try.prog 82 = true := by kernel_rfl
theorem fn_83 : goodF Try.prog 83 = true := by kernel_rfl
theorem fn_84 : goodF Try.prog 84 = true := by kernel_rfl
theorem fn_85 : goodF Try.prog 85 = true := by kernel_rfl
theorem fn_86 : goodF Try.prog 86 = true := by kernel_rfl
theorem fn_91 : goodF Try.prog 91 = true := by kernel_rfl
theorem fn_97 : goodF Try.prog 97 = true := by kernel_rfl
theorem fn_98 : goodF Try.prog 98 = true := by kernel_rfl
theorem fn_99 : goodF Try.prog 99 = true := by kernel_rfl
theorem fn_100 : goodF Try.prog 100 = true := by kernel_rfl
theorem fn_101 : goodF Try.prog 101 = true := by kernel_rfl
theorem fn_102 : goodF Try.prog 102 = true := by kernel_rfl
theorem fn_103 : goodF Try.prog 103 = true := by kernel_rfl
theorem fn_104 : goodF Try.prog 104 = true := by kernel_rfl
theorem fn_105 : goodF Try.prog 105 = true := by kernel_rfl
theorem fn_106 : goodF Try.prog 106 = true := by kernel_rfl
theorem fn_107 : goodF Try.prog 107 = true := by kernel_rfl
theorem fn_108 : goodF Try.prog 108 = true := by kernel_rfl
theorem fn_109 : goodF Try.prog 109 = true := by kernel_rfl
theorem fn_110 : goodF Try.prog 110 = true := by kernel_rfl
theorem fn_120 : goodF Try.prog 120 = true := by kernel_rfl
theorem fn_121 : goodF Try.prog 121 = true := by kernel_rfl
theorem fn_122 : goodF Try.prog 122 = true := by kernel_rfl
theorem fn_123 : goodF Try.prog 123 = true := by kernel_rfl
theorem fn_124 : goodF Try.prog 124 = true := by kernel_rfl
theorem fn_125 : goodF Try.prog 125 = true := by kernel_rfl
theorem fn_126 : goodF Try.prog 126 = true := by kernel_rfl
theorem fn_127 : goodF Try.prog 127 = true := by kernel_rfl
theorem fn_128 : goodF Try.prog 128 = true := by kernel_rfl
theorem fn_129 : goodF Try.prog 129 = true := by kernel_rfl
theorem fn_130 : goodF Try.prog 130 = true := by kernel_rfl
theorem fn_131 : goodF Try.prog 131 = true := by kernel_rfl
theorem fn_132 : goodF Try.prog 132 = true := by kernel_rfl
theorem fn_133 : goodF Try.prog 133 = true := by kernel_rfl
theorem fn_134 : goodF Try.prog 134 = true := by kernel_rfl
theorem fn_135 : goodF Try.prog 135 = true := by kernel_rfl
theorem fn_142 : goodF Try.prog 142 = true := by kernel_rfl
theorem fn_143 : goodF Try.prog 143 = true := by kernel_rfl
theorem fn_144 : goodF Try.prog 144 = true := by kernel_rfl
theorem fn_145 : goodF Try.prog 145 = true := by kernel_rfl
theorem fn_146 : goodF Try.prog 146 = true := by kernel_rfl
theorem fn_147 : goodF Try.prog 147 = true := by kernel_rfl
theorem fn_148 : goodF Try.prog 148 = true := by kernel_rfl
theorem fn_149 : goodF Try.prog 149 = true := by kernel_rfl
theorem fn_150 : goodF Try.prog 150 = true := by kernel_rfl
theorem fn_151 : goodF Try.prog 151 = true := by kernel_rfl
theorem fn_152 : goodF Try.prog 152 = true := by kernel_rfl
theorem fn_153 : goodF Try.prog 153 = true := by kernel_rfl
theorem fn_154 : goodF Try.prog 154 = true := by kernel_rfl
theorem fn_155 : goodF Try.prog 155 = true := by kernel_rfl
theorem fn_156 : goodF Try.prog 156 = true := by kernel_rfl
theorem fn_157 : goodF Try.prog 157 = true := by kernel_rfl
theorem fn_158 : goodF Try.prog 158 = true := by kernel_rfl
theorem fn_159 : goodF Try.prog 159 = true := by kernel_rfl
theorem fn_160 : goodF Try.prog 160 = true := by kernel_rfl
theorem fn_161 : goodF Try.prog 161 = true := by kernel_rfl
theorem fn_162 : goodF Try.prog 162 = true := by kernel_rfl
theorem fn_163 : goodF Try.prog 163 = true := by kernel_rfl
theorem fn_164 : goodF Try.prog 164 = true := by kernel_rfl
theorem fn_165 : goodF Try.prog 165 = true := by kernel_rfl
theorem fn_166 : goodF Try.prog 166 = true := by kernel_rfl
theorem und_4 : Try.prog.underlying 4 = some (.bool) := @Try.underlying4
theorem und_24 : Try.prog.underlying 24 = some (.slice 2) := @Try.underlying24
theorem und_44 : Try.prog.underlying 44 = some (.slice 33) := @Try.underlying44
theorem und_74 : Try.prog.underlying 74 = some (.slice 84) := @Try.underlying74
theorem mixed_ : Try.prog.follows .mixedOrders = true := by kernel_rfl
def cRules (x : M.Rul) : List Ty := [Ty.int x.pits, Ty.int x.seeds, Ty.bool x.stores, Ty.bool x.skip, Ty.bool x.relay, Ty.bool x.feed, Ty.bool x.again, Ty.int x.capture, Ty.int x.slam]
theorem open_Rules {u : World} {v : Value} {x : M.Rul} (h : (Ty.agg (cRules x)).ok u v) : v = .agg #[.int .i64 x.pits, .int .i64 x.seeds, .bool x.stores, .bool x.skip, .bool x.relay, .bool x.feed, .bool x.again, .int .i64 x.capture, .int .i64 x.slam] := by
  obtain ⟨vs, rfl, h⟩ := h
  obtain ⟨x0, r, rfl, h0, h⟩ := cellsOk_cons h
  obtain ⟨x1, r, rfl, h1, h⟩ := cellsOk_cons h
  obtain ⟨x2, r, rfl, h2, h⟩ := cellsOk_cons h
  obtain ⟨x3, r, rfl, h3, h⟩ := cellsOk_cons h
  obtain ⟨x4, r, rfl, h4, h⟩ := cellsOk_cons h
  obtain ⟨x5, r, rfl, h5, h⟩ := cellsOk_cons h
  obtain ⟨x6, r, rfl, h6, h⟩ := cellsOk_cons h
  obtain ⟨x7, r, rfl, h7, h⟩ := cellsOk_cons h
  obtain ⟨x8, r, rfl, h8, h⟩ := cellsOk_cons h
  obtain rfl := cellsOk_nil h
  obtain rfl : x0 = .int .i64 x.pits := h0
  obtain rfl : x1 = .int .i64 x.seeds := h1
  obtain rfl : x2 = .bool x.stores := h2
  obtain rfl : x3 = .bool x.skip := h3
  obtain rfl : x4 = .bool x.relay := h4
  obtain rfl : x5 = .bool x.feed := h5
  obtain rfl : x6 = .bool x.again := h6
  obtain rfl : x7 = .int .i64 x.capture := h7
  obtain rfl : x8 = .int .i64 x.slam := h8
  exact rfl
theorem ref_Rules {u : World} {v : Value} {x : M.Rul} (h : (Ty.ref (cRules x)).ok u v) : ∃ b o, v = .pointer (some ⟨b, o, none⟩) ∧ RowAt u b o [.int .i64 x.pits, .int .i64 x.seeds, .bool x.stores, .bool x.skip, .bool x.relay, .bool x.feed, .bool x.again, .int .i64 x.capture, .int .i64 x.slam] := by
  obtain ⟨b, o, vs, rfl, h, hr⟩ := h
  obtain ⟨x0, r, rfl, h0, h⟩ := cellsOk_cons h
  obtain ⟨x1, r, rfl, h1, h⟩ := cellsOk_cons h
  obtain ⟨x2, r, rfl, h2, h⟩ := cellsOk_cons h
  obtain ⟨x3, r, rfl, h3, h⟩ := cellsOk_cons h
  obtain ⟨x4, r, rfl, h4, h⟩ := cellsOk_cons h
  obtain ⟨x5, r, rfl, h5, h⟩ := cellsOk_cons h
  obtain ⟨x6, r, rfl, h6, h⟩ := cellsOk_cons h
  obtain ⟨x7, r, rfl, h7, h⟩ := cellsOk_cons h
  obtain ⟨x8, r, rfl, h8, h⟩ := cellsOk_cons h
  obtain rfl := cellsOk_nil h
  obtain rfl : x0 = .int .i64 x.pits := h0
  obtain rfl : x1 = .int .i64 x.seeds := h1
  obtain rfl : x2 = .bool x.stores := h2
  obtain rfl : x3 = .bool x.skip := h3
  obtain rfl : x4 = .bool x.relay := h4
  obtain rfl : x5 = .bool x.feed := h5
  obtain rfl : x6 = .bool x.again := h6
  obtain rfl : x7 = .int .i64 x.capture := h7
  obtain rfl : x8 = .int .i64 x.slam := h8
  exact ⟨b, o, rfl, hr⟩
def cPosition (x : M.Pos) : List Ty := [Ty.ints 2 x.pits, Ty.ints 2 x.stores, Ty.int x.player]
theorem open_Position {u : World} {v : Value} {x : M.Pos} (h : (Ty.agg (cPosition x)).ok u v) : ∃ A0 c0 A1 c1, v = .agg #[.slice A0 x.pits.length c0, .slice A1 x.stores.length c1, .int .i64 x.player] ∧ (Ty.ints 2 x.pits).ok u (.slice A0 x.pits.length c0) ∧ (Ty.ints 2 x.stores).ok u (.slice A1 x.stores.length c1) ∧ x.pits.length ≤ c0 ∧ c0 ≤ 9223372036854775807 ∧ x.stores.length ≤ c1 ∧ c1 ≤ 9223372036854775807 := by
  obtain ⟨vs, rfl, h⟩ := h
  obtain ⟨x0, r, rfl, h0, h⟩ := cellsOk_cons h
  obtain ⟨x1, r, rfl, h1, h⟩ := cellsOk_cons h
  obtain ⟨x2, r, rfl, h2, h⟩ := cellsOk_cons h
  obtain rfl := cellsOk_nil h
  obtain ⟨A0, c0, rfl, b0, d0⟩ := sl_form h0
  obtain ⟨A1, c1, rfl, b1, d1⟩ := sl_form h1
  obtain rfl : x2 = .int .i64 x.player := h2
  exact ⟨A0, c0, A1, c1, rfl, h0, h1, b0, d0, b1, d1⟩
theorem ref_Position {u : World} {v : Value} {x : M.Pos} (h : (Ty.ref (cPosition x)).ok u v) : ∃ b o A0 c0 A1 c1, v = .pointer (some ⟨b, o, none⟩) ∧ RowAt u b o [.slice A0 x.pits.length c0, .slice A1 x.stores.length c1, .int .i64 x.player] ∧ (Ty.ints 2 x.pits).ok u (.slice A0 x.pits.length c0) ∧ (Ty.ints 2 x.stores).ok u (.slice A1 x.stores.length c1) ∧ x.pits.length ≤ c0 ∧ c0 ≤ 9223372036854775807 ∧ x.stores.length ≤ c1 ∧ c1 ≤ 9223372036854775807 := by
  obtain ⟨b, o, vs, rfl, h, hr⟩ := h
  obtain ⟨x0, r, rfl, h0, h⟩ := cellsOk_cons h
  obtain ⟨x1, r, rfl, h1, h⟩ := cellsOk_cons h
  obtain ⟨x2, r, rfl, h2, h⟩ := cellsOk_cons h
  obtain rfl := cellsOk_nil h
  obtain ⟨A0, c0, rfl, b0, d0⟩ := sl_form h0
  obtain ⟨A1, c1, rfl, b1, d1⟩ := sl_form h1
  obtain rfl : x2 = .int .i64 x.player := h2
  exact ⟨b, o, A0, c0, A1, c1, rfl, hr, h0, h1, b0, d0, b1, d1⟩
theorem own_Position {u : World} {v : Value} {fp : List Nat} {x : M.Pos} (h : (Ty.agg (cPosition x)).own u v fp) : ∃ A0 c0 A1 c1, v = .agg #[.slice A0 x.pits.length c0, .slice A1 x.stores.length c1, .int .i64 x.player] ∧ cellsOwn u (cPosition x) [.slice A0 x.pits.length c0, .slice A1 x.stores.length c1, .int .i64 x.player] fp ∧ x.pits.length ≤ c0 ∧ c0 ≤ 9223372036854775807 ∧ x.stores.length ≤ c1 ∧ c1 ≤ 9223372036854775807 := by
  obtain ⟨vs, rfl, hc⟩ := h
  have h := hc.ok
  obtain ⟨x0, r, rfl, h0, h⟩ := cellsOk_cons h
  obtain ⟨x1, r, rfl, h1, h⟩ := cellsOk_cons h
  obtain ⟨x2, r, rfl, h2, h⟩ := cellsOk_cons h
  obtain rfl := cellsOk_nil h
  obtain ⟨A0, c0, rfl, b0, d0⟩ := sl_form h0
  obtain ⟨A1, c1, rfl, b1, d1⟩ := sl_form h1
  obtain rfl : x2 = .int .i64 x.player := h2
  exact ⟨A0, c0, A1, c1, rfl, hc, b0, d0, b1, d1⟩
theorem Spl_Position (x : M.Pos) : Spl (Ty.agg (cPosition x)) (fun v ow => ∃ A0 c0 A1 c1 f, v = .agg #[.slice A0 x.pits.length c0, .slice A1 x.stores.length c1, .int .i64 x.player] ∧ ow = [ownC (cPosition x) [.slice A0 x.pits.length c0, .slice A1 x.stores.length c1, .int .i64 x.player] f] ∧ x.pits.length ≤ c0 ∧ c0 ≤ 9223372036854775807 ∧ x.stores.length ≤ c1 ∧ c1 ≤ 9223372036854775807) := fun w v fp h => by
  obtain ⟨A0, c0, A1, c1, rfl, hc, b0, d0, b1, d1⟩ := own_Position h
  exact ⟨_, ⟨A0, c0, A1, c1, fp, rfl, rfl, b0, d0, b1, d1⟩, by simp [ownC], fun o ho => by simp at ho; subst ho; exact hc⟩
def lPosition (xs : List M.Pos) : List Ty := xs.flatMap cPosition
theorem lPosition_length (xs : List M.Pos) : (lPosition xs).length = xs.length * 3 := flat_len cPosition 3 (fun _ => rfl) xs
theorem elem_Position {u : World} {e c i : Nat} {A : Option Addr} {xs : List M.Pos} {x : M.Pos} (h : (Ty.sl e 3 xs.length (lPosition xs)).ok u (.slice A xs.length c)) (hi : xs[i]? = some x) : ∃ b o A0 c0 A1 c1, elemA 3 (.slice A xs.length c) i = some ⟨b, o, none⟩ ∧ RowAt u b o [.slice A0 x.pits.length c0, .slice A1 x.stores.length c1, .int .i64 x.player] ∧ (Ty.ints 2 x.pits).ok u (.slice A0 x.pits.length c0) ∧ (Ty.ints 2 x.stores).ok u (.slice A1 x.stores.length c1) ∧ x.pits.length ≤ c0 ∧ c0 ≤ 9223372036854775807 ∧ x.stores.length ≤ c1 ∧ c1 ≤ 9223372036854775807 := by
  obtain ⟨b, o, vs, he, h, hr⟩ := sl_elem h (List.getElem?_eq_some_iff.1 hi).1 rfl
  have e := drop_flat cPosition 3 (fun _ => rfl) xs i x hi
  unfold lPosition at h
  rw [e] at h
  obtain ⟨x0, r, rfl, h0, h⟩ := cellsOk_cons h
  obtain ⟨x1, r, rfl, h1, h⟩ := cellsOk_cons h
  obtain ⟨x2, r, rfl, h2, h⟩ := cellsOk_cons h
  obtain rfl := cellsOk_nil h
  obtain ⟨A0, c0, rfl, b0, d0⟩ := sl_form h0
  obtain ⟨A1, c1, rfl, b1, d1⟩ := sl_form h1
  obtain rfl : x2 = .int .i64 x.player := h2
  exact ⟨b, o, A0, c0, A1, c1, he, hr, h0, h1, b0, d0, b1, d1⟩
theorem elemv_Position {w : World} {i : Nat} {xs : List M.Pos} {x : M.Pos} {vs : List Value} (h : cellsOk w (lPosition xs) vs) (hi : xs[i]? = some x) : ∃ A0 c0 A1 c1, (vs.drop (0 + i * 3)).take 3 = [.slice A0 x.pits.length c0, .slice A1 x.stores.length c1, .int .i64 x.player] ∧ x.pits.length ≤ c0 ∧ c0 ≤ 9223372036854775807 ∧ x.stores.length ≤ c1 ∧ c1 ≤ 9223372036854775807 := by
  rw [Nat.zero_add]
  have h := cellsOk.take 3 (cellsOk.drop (i * 3) h)
  rw [lPosition, drop_flat cPosition 3 (fun _ => rfl) xs i x hi] at h
  generalize (vs.drop (i * 3)).take 3 = vs at h ⊢
  obtain ⟨x0, r, rfl, h0, h⟩ := cellsOk_cons h
  obtain ⟨x1, r, rfl, h1, h⟩ := cellsOk_cons h
  obtain ⟨x2, r, rfl, h2, h⟩ := cellsOk_cons h
  obtain rfl := cellsOk_nil h
  obtain ⟨A0, c0, rfl, b0, d0⟩ := sl_form h0
  obtain ⟨A1, c1, rfl, b1, d1⟩ := sl_form h1
  obtain rfl : x2 = .int .i64 x.player := h2
  exact ⟨A0, c0, A1, c1, rfl, b0, d0, b1, d1⟩
theorem lPosition_snoc (xs : List M.Pos) (x : M.Pos) : lPosition xs ++ cPosition x = lPosition (xs ++ [x]) := by simp [lPosition]
theorem unpack_Position {w : World} {x : M.Pos} {A0 A1 : Option Addr} {m0 m1 c0 c1 : Nat} {f : List Nat} (h : cellsOwn w (cPosition x) [.slice A0 m0 c0, .slice A1 m1 c1, .int .i64 x.player] f) : (rowO 2 1 (.slice A0 m0 c0) m0 (ints_ x.pits) []).pr w ∧ (rowO 2 1 (.slice A1 m1 c1) m1 (ints_ x.stores) []).pr w ∧ f = (rowO 2 1 (.slice A0 m0 c0) m0 (ints_ x.pits) []).fp ++ (rowO 2 1 (.slice A1 m1 c1) m1 (ints_ x.stores) []).fp := by
  obtain ⟨g0, r0, rfl, h0, h⟩ := h
  obtain ⟨g1, r1, rfl, h1, h⟩ := h
  obtain ⟨g2, r2, rfl, h2, h⟩ := h
  obtain rfl : _ = [] := h
  obtain ⟨_, rfl⟩ := h2
  have a := ints_open h0
  have b := ints_open h1
  exact ⟨a.1, b.1, by rw [← a.2, ← b.2]; simp⟩
def cSown (x : M.Sw) : List Ty := [Ty.ints 2 x.pits, Ty.ints 2 x.stores, Ty.int x.last, Ty.int x.laps]
theorem open_Sown {u : World} {v : Value} {x : M.Sw} (h : (Ty.agg (cSown x)).ok u v) : ∃ A0 c0 A1 c1, v = .agg #[.slice A0 x.pits.length c0, .slice A1 x.stores.length c1, .int .i64 x.last, .int .i64 x.laps] ∧ (Ty.ints 2 x.pits).ok u (.slice A0 x.pits.length c0) ∧ (Ty.ints 2 x.stores).ok u (.slice A1 x.stores.length c1) ∧ x.pits.length ≤ c0 ∧ c0 ≤ 9223372036854775807 ∧ x.stores.length ≤ c1 ∧ c1 ≤ 9223372036854775807 := by
  obtain ⟨vs, rfl, h⟩ := h
  obtain ⟨x0, r, rfl, h0, h⟩ := cellsOk_cons h
  obtain ⟨x1, r, rfl, h1, h⟩ := cellsOk_cons h
  obtain ⟨x2, r, rfl, h2, h⟩ := cellsOk_cons h
  obtain ⟨x3, r, rfl, h3, h⟩ := cellsOk_cons h
  obtain rfl := cellsOk_nil h
  obtain ⟨A0, c0, rfl, b0, d0⟩ := sl_form h0
  obtain ⟨A1, c1, rfl, b1, d1⟩ := sl_form h1
  obtain rfl : x2 = .int .i64 x.last := h2
  obtain rfl : x3 = .int .i64 x.laps := h3
  exact ⟨A0, c0, A1, c1, rfl, h0, h1, b0, d0, b1, d1⟩
theorem ref_Sown {u : World} {v : Value} {x : M.Sw} (h : (Ty.ref (cSown x)).ok u v) : ∃ b o A0 c0 A1 c1, v = .pointer (some ⟨b, o, none⟩) ∧ RowAt u b o [.slice A0 x.pits.length c0, .slice A1 x.stores.length c1, .int .i64 x.last, .int .i64 x.laps] ∧ (Ty.ints 2 x.pits).ok u (.slice A0 x.pits.length c0) ∧ (Ty.ints 2 x.stores).ok u (.slice A1 x.stores.length c1) ∧ x.pits.length ≤ c0 ∧ c0 ≤ 9223372036854775807 ∧ x.stores.length ≤ c1 ∧ c1 ≤ 9223372036854775807 := by
  obtain ⟨b, o, vs, rfl, h, hr⟩ := h
  obtain ⟨x0, r, rfl, h0, h⟩ := cellsOk_cons h
  obtain ⟨x1, r, rfl, h1, h⟩ := cellsOk_cons h
  obtain ⟨x2, r, rfl, h2, h⟩ := cellsOk_cons h
  obtain ⟨x3, r, rfl, h3, h⟩ := cellsOk_cons h
  obtain rfl := cellsOk_nil h
  obtain ⟨A0, c0, rfl, b0, d0⟩ := sl_form h0
  obtain ⟨A1, c1, rfl, b1, d1⟩ := sl_form h1
  obtain rfl : x2 = .int .i64 x.last := h2
  obtain rfl : x3 = .int .i64 x.laps := h3
  exact ⟨b, o, A0, c0, A1, c1, rfl, hr, h0, h1, b0, d0, b1, d1⟩
theorem own_Sown {u : World} {v : Value} {fp : List Nat} {x : M.Sw} (h : (Ty.agg (cSown x)).own u v fp) : ∃ A0 c0 A1 c1, v = .agg #[.slice A0 x.pits.length c0, .slice A1 x.stores.length c1, .int .i64 x.last, .int .i64 x.laps] ∧ cellsOwn u (cSown x) [.slice A0 x.pits.length c0, .slice A1 x.stores.length c1, .int .i64 x.last, .int .i64 x.laps] fp ∧ x.pits.length ≤ c0 ∧ c0 ≤ 9223372036854775807 ∧ x.stores.length ≤ c1 ∧ c1 ≤ 9223372036854775807 := by
  obtain ⟨vs, rfl, hc⟩ := h
  have h := hc.ok
  obtain ⟨x0, r, rfl, h0, h⟩ := cellsOk_cons h
  obtain ⟨x1, r, rfl, h1, h⟩ := cellsOk_cons h
  obtain ⟨x2, r, rfl, h2, h⟩ := cellsOk_cons h
  obtain ⟨x3, r, rfl, h3, h⟩ := cellsOk_cons h
  obtain rfl := cellsOk_nil h
  obtain ⟨A0, c0, rfl, b0, d0⟩ := sl_form h0
  obtain ⟨A1, c1, rfl, b1, d1⟩ := sl_form h1
  obtain rfl : x2 = .int .i64 x.last := h2
  obtain rfl : x3 = .int .i64 x.laps := h3
  exact ⟨A0, c0, A1, c1, rfl, hc, b0, d0, b1, d1⟩
theorem Spl_Sown (x : M.Sw) : Spl (Ty.agg (cSown x)) (fun v ow => ∃ A0 c0 A1 c1 f, v = .agg #[.slice A0 x.pits.length c0, .slice A1 x.stores.length c1, .int .i64 x.last, .int .i64 x.laps] ∧ ow = [ownC (cSown x) [.slice A0 x.pits.length c0, .slice A1 x.stores.length c1, .int .i64 x.last, .int .i64 x.laps] f] ∧ x.pits.length ≤ c0 ∧ c0 ≤ 9223372036854775807 ∧ x.stores.length ≤ c1 ∧ c1 ≤ 9223372036854775807) := fun w v fp h => by
  obtain ⟨A0, c0, A1, c1, rfl, hc, b0, d0, b1, d1⟩ := own_Sown h
  exact ⟨_, ⟨A0, c0, A1, c1, fp, rfl, rfl, b0, d0, b1, d1⟩, by simp [ownC], fun o ho => by simp at ho; subst ho; exact hc⟩
def csowing (x : M.Sow) : List Ty := [Ty.int x.rules.pits, Ty.int x.rules.seeds, Ty.bool x.rules.stores, Ty.bool x.rules.skip, Ty.bool x.rules.relay, Ty.bool x.rules.feed, Ty.bool x.rules.again, Ty.int x.rules.capture, Ty.int x.rules.slam, Ty.int x.player, Ty.ints 2 x.sown.pits, Ty.ints 2 x.sown.stores, Ty.int x.sown.last, Ty.int x.sown.laps, Ty.ints 2 x.path]
theorem ref_sowing {u : World} {v : Value} {x : M.Sow} (h : (Ty.ref (csowing x)).ok u v) : ∃ b o A10 c10 A11 c11 A14 c14, v = .pointer (some ⟨b, o, none⟩) ∧ RowAt u b o [.int .i64 x.rules.pits, .int .i64 x.rules.seeds, .bool x.rules.stores, .bool x.rules.skip, .bool x.rules.relay, .bool x.rules.feed, .bool x.rules.again, .int .i64 x.rules.capture, .int .i64 x.rules.slam, .int .i64 x.player, .slice A10 x.sown.pits.length c10, .slice A11 x.sown.stores.length c11, .int .i64 x.sown.last, .int .i64 x.sown.laps, .slice A14 x.path.length c14] ∧ (Ty.ints 2 x.sown.pits).ok u (.slice A10 x.sown.pits.length c10) ∧ (Ty.ints 2 x.sown.stores).ok u (.slice A11 x.sown.stores.length c11) ∧ (Ty.ints 2 x.path).ok u (.slice A14 x.path.length c14) ∧ x.sown.pits.length ≤ c10 ∧ c10 ≤ 9223372036854775807 ∧ x.sown.stores.length ≤ c11 ∧ c11 ≤ 9223372036854775807 ∧ x.path.length ≤ c14 ∧ c14 ≤ 9223372036854775807 := by
  obtain ⟨b, o, vs, rfl, h, hr⟩ := h
  obtain ⟨x0, r, rfl, h0, h⟩ := cellsOk_cons h
  obtain ⟨x1, r, rfl, h1, h⟩ := cellsOk_cons h
  obtain ⟨x2, r, rfl, h2, h⟩ := cellsOk_cons h
  obtain ⟨x3, r, rfl, h3, h⟩ := cellsOk_cons h
  obtain ⟨x4, r, rfl, h4, h⟩ := cellsOk_cons h
  obtain ⟨x5, r, rfl, h5, h⟩ := cellsOk_cons h
  obtain ⟨x6, r, rfl, h6, h⟩ := cellsOk_cons h
  obtain ⟨x7, r, rfl, h7, h⟩ := cellsOk_cons h
  obtain ⟨x8, r, rfl, h8, h⟩ := cellsOk_cons h
  obtain ⟨x9, r, rfl, h9, h⟩ := cellsOk_cons h
  obtain ⟨x10, r, rfl, h10, h⟩ := cellsOk_cons h
  obtain ⟨x11, r, rfl, h11, h⟩ := cellsOk_cons h
  obtain ⟨x12, r, rfl, h12, h⟩ := cellsOk_cons h
  obtain ⟨x13, r, rfl, h13, h⟩ := cellsOk_cons h
  obtain ⟨x14, r, rfl, h14, h⟩ := cellsOk_cons h
  obtain rfl := cellsOk_nil h
  obtain rfl : x0 = .int .i64 x.rules.pits := h0
  obtain rfl : x1 = .int .i64 x.rules.seeds := h1
  obtain rfl : x2 = .bool x.rules.stores := h2
  obtain rfl : x3 = .bool x.rules.skip := h3
  obtain rfl : x4 = .bool x.rules.relay := h4
  obtain rfl : x5 = .bool x.rules.feed := h5
  obtain rfl : x6 = .bool x.rules.again := h6
  obtain rfl : x7 = .int .i64 x.rules.capture := h7
  obtain rfl : x8 = .int .i64 x.rules.slam := h8
  obtain rfl : x9 = .int .i64 x.player := h9
  obtain ⟨A10, c10, rfl, b10, d10⟩ := sl_form h10
  obtain ⟨A11, c11, rfl, b11, d11⟩ := sl_form h11
  obtain rfl : x12 = .int .i64 x.sown.last := h12
  obtain rfl : x13 = .int .i64 x.sown.laps := h13
  obtain ⟨A14, c14, rfl, b14, d14⟩ := sl_form h14
  exact ⟨b, o, A10, c10, A11, c11, A14, c14, rfl, hr, h10, h11, h14, b10, d10, b11, d11, b14, d14⟩
def cResult (x : M.Res) : List Ty := [Ty.int x.move, Ty.int x.gain, Ty.bool x.again, Ty.ints 2 x.next.pits, Ty.ints 2 x.next.stores, Ty.int x.next.player]
theorem open_Result {u : World} {v : Value} {x : M.Res} (h : (Ty.agg (cResult x)).ok u v) : ∃ A3 c3 A4 c4, v = .agg #[.int .i64 x.move, .int .i64 x.gain, .bool x.again, .slice A3 x.next.pits.length c3, .slice A4 x.next.stores.length c4, .int .i64 x.next.player] ∧ (Ty.ints 2 x.next.pits).ok u (.slice A3 x.next.pits.length c3) ∧ (Ty.ints 2 x.next.stores).ok u (.slice A4 x.next.stores.length c4) ∧ x.next.pits.length ≤ c3 ∧ c3 ≤ 9223372036854775807 ∧ x.next.stores.length ≤ c4 ∧ c4 ≤ 9223372036854775807 := by
  obtain ⟨vs, rfl, h⟩ := h
  obtain ⟨x0, r, rfl, h0, h⟩ := cellsOk_cons h
  obtain ⟨x1, r, rfl, h1, h⟩ := cellsOk_cons h
  obtain ⟨x2, r, rfl, h2, h⟩ := cellsOk_cons h
  obtain ⟨x3, r, rfl, h3, h⟩ := cellsOk_cons h
  obtain ⟨x4, r, rfl, h4, h⟩ := cellsOk_cons h
  obtain ⟨x5, r, rfl, h5, h⟩ := cellsOk_cons h
  obtain rfl := cellsOk_nil h
  obtain rfl : x0 = .int .i64 x.move := h0
  obtain rfl : x1 = .int .i64 x.gain := h1
  obtain rfl : x2 = .bool x.again := h2
  obtain ⟨A3, c3, rfl, b3, d3⟩ := sl_form h3
  obtain ⟨A4, c4, rfl, b4, d4⟩ := sl_form h4
  obtain rfl : x5 = .int .i64 x.next.player := h5
  exact ⟨A3, c3, A4, c4, rfl, h3, h4, b3, d3, b4, d4⟩
def lResult (xs : List M.Res) : List Ty := xs.flatMap cResult
theorem lResult_length (xs : List M.Res) : (lResult xs).length = xs.length * 6 := flat_len cResult 6 (fun _ => rfl) xs
theorem elemv_Result {w : World} {i : Nat} {xs : List M.Res} {x : M.Res} {vs : List Value} (h : cellsOk w (lResult xs) vs) (hi : xs[i]? = some x) : ∃ A3 c3 A4 c4, (vs.drop (0 + i * 6)).take 6 = [.int .i64 x.move, .int .i64 x.gain, .bool x.again, .slice A3 x.next.pits.length c3, .slice A4 x.next.stores.length c4, .int .i64 x.next.player] ∧ x.next.pits.length ≤ c3 ∧ c3 ≤ 9223372036854775807 ∧ x.next.stores.length ≤ c4 ∧ c4 ≤ 9223372036854775807 := by
  rw [Nat.zero_add]
  have h := cellsOk.take 6 (cellsOk.drop (i * 6) h)
  rw [lResult, drop_flat cResult 6 (fun _ => rfl) xs i x hi] at h
  generalize (vs.drop (i * 6)).take 6 = vs at h ⊢
  obtain ⟨x0, r, rfl, h0, h⟩ := cellsOk_cons h
  obtain ⟨x1, r, rfl, h1, h⟩ := cellsOk_cons h
  obtain ⟨x2, r, rfl, h2, h⟩ := cellsOk_cons h
  obtain ⟨x3, r, rfl, h3, h⟩ := cellsOk_cons h
  obtain ⟨x4, r, rfl, h4, h⟩ := cellsOk_cons h
  obtain ⟨x5, r, rfl, h5, h⟩ := cellsOk_cons h
  obtain rfl := cellsOk_nil h
  obtain rfl : x0 = .int .i64 x.move := h0
  obtain rfl : x1 = .int .i64 x.gain := h1
  obtain rfl : x2 = .bool x.again := h2
  obtain ⟨A3, c3, rfl, b3, d3⟩ := sl_form h3
  obtain ⟨A4, c4, rfl, b4, d4⟩ := sl_form h4
  obtain rfl : x5 = .int .i64 x.next.player := h5
  exact ⟨A3, c3, A4, c4, rfl, b3, d3, b4, d4⟩
theorem lResult_snoc (xs : List M.Res) (x : M.Res) : lResult xs ++ cResult x = lResult (xs ++ [x]) := by simp [lResult]
theorem pack_Result {w : World} {x : M.Res} {v1 v2 : Value} {f1 f2 : List Nat} (h1 : (Ty.ints 2 x.next.pits).own w v1 f1) (h2 : (Ty.ints 2 x.next.stores).own w v2 f2) : cellsOwn w (cResult x) [.int .i64 x.move, .int .i64 x.gain, .bool x.again, v1, v2, .int .i64 x.next.player] (f1 ++ f2) :=
  ⟨[], f1 ++ f2, rfl, ⟨rfl, rfl⟩, ⟨[], f1 ++ f2, rfl, ⟨rfl, rfl⟩, ⟨[], f1 ++ f2, rfl, ⟨rfl, rfl⟩, ⟨f1, f2, rfl, h1, ⟨f2, [], (List.append_nil _).symm, h2, ⟨[], [], rfl, ⟨rfl, rfl⟩, rfl⟩⟩⟩⟩⟩⟩
def cResultL (x : M.Res) : List Ty := [Ty.int x.move, Ty.int x.gain, Ty.bool x.again, Ty.any, Ty.any, Ty.any]
def lResultL (xs : List M.Res) : List Ty := xs.flatMap cResultL
theorem lResultL_length (xs : List M.Res) : (lResultL xs).length = xs.length * 6 := flat_len cResultL 6 (fun _ => rfl) xs
theorem lResultL_snoc (xs : List M.Res) (x : M.Res) : lResultL xs ++ cResultL x = lResultL (xs ++ [x]) := by simp [lResultL]
def cGameL (x : M.Gam) : List Ty := [Ty.int x.rules.pits, Ty.int x.rules.seeds, Ty.bool x.rules.stores, Ty.bool x.rules.skip, Ty.bool x.rules.relay, Ty.bool x.rules.feed, Ty.bool x.rules.again, Ty.int x.rules.capture, Ty.int x.rules.slam, Ty.ints 2 x.start.pits, Ty.ints 2 x.start.stores, Ty.int x.start.player, Ty.ro 2 x.moves, Ty.ints 2 x.now.pits, Ty.ints 2 x.now.stores, Ty.int x.now.player, Ty.int x.resigned]
theorem open_GameL {u : World} {v : Value} {x : M.Gam} (h : (Ty.agg (cGameL x)).ok u v) : ∃ A9 c9 A10 c10 A12 c12 A13 c13 A14 c14, v = .agg #[.int .i64 x.rules.pits, .int .i64 x.rules.seeds, .bool x.rules.stores, .bool x.rules.skip, .bool x.rules.relay, .bool x.rules.feed, .bool x.rules.again, .int .i64 x.rules.capture, .int .i64 x.rules.slam, .slice A9 x.start.pits.length c9, .slice A10 x.start.stores.length c10, .int .i64 x.start.player, .slice A12 x.moves.length c12, .slice A13 x.now.pits.length c13, .slice A14 x.now.stores.length c14, .int .i64 x.now.player, .int .i64 x.resigned] ∧ (Ty.ints 2 x.start.pits).ok u (.slice A9 x.start.pits.length c9) ∧ (Ty.ints 2 x.start.stores).ok u (.slice A10 x.start.stores.length c10) ∧ (Ty.ro 2 x.moves).ok u (.slice A12 x.moves.length c12) ∧ (Ty.ints 2 x.now.pits).ok u (.slice A13 x.now.pits.length c13) ∧ (Ty.ints 2 x.now.stores).ok u (.slice A14 x.now.stores.length c14) ∧ x.start.pits.length ≤ c9 ∧ c9 ≤ 9223372036854775807 ∧ x.start.stores.length ≤ c10 ∧ c10 ≤ 9223372036854775807 ∧ x.moves.length ≤ c12 ∧ c12 ≤ 9223372036854775807 ∧ x.now.pits.length ≤ c13 ∧ c13 ≤ 9223372036854775807 ∧ x.now.stores.length ≤ c14 ∧ c14 ≤ 9223372036854775807 := by
  obtain ⟨vs, rfl, h⟩ := h
  obtain ⟨x0, r, rfl, h0, h⟩ := cellsOk_cons h
  obtain ⟨x1, r, rfl, h1, h⟩ := cellsOk_cons h
  obtain ⟨x2, r, rfl, h2, h⟩ := cellsOk_cons h
  obtain ⟨x3, r, rfl, h3, h⟩ := cellsOk_cons h
  obtain ⟨x4, r, rfl, h4, h⟩ := cellsOk_cons h
  obtain ⟨x5, r, rfl, h5, h⟩ := cellsOk_cons h
  obtain ⟨x6, r, rfl, h6, h⟩ := cellsOk_cons h
  obtain ⟨x7, r, rfl, h7, h⟩ := cellsOk_cons h
  obtain ⟨x8, r, rfl, h8, h⟩ := cellsOk_cons h
  obtain ⟨x9, r, rfl, h9, h⟩ := cellsOk_cons h
  obtain ⟨x10, r, rfl, h10, h⟩ := cellsOk_cons h
  obtain ⟨x11, r, rfl, h11, h⟩ := cellsOk_cons h
  obtain ⟨x12, r, rfl, h12, h⟩ := cellsOk_cons h
  obtain ⟨x13, r, rfl, h13, h⟩ := cellsOk_cons h
  obtain ⟨x14, r, rfl, h14, h⟩ := cellsOk_cons h
  obtain ⟨x15, r, rfl, h15, h⟩ := cellsOk_cons h
  obtain ⟨x16, r, rfl, h16, h⟩ := cellsOk_cons h
  obtain rfl := cellsOk_nil h
  obtain rfl : x0 = .int .i64 x.rules.pits := h0
  obtain rfl : x1 = .int .i64 x.rules.seeds := h1
  obtain rfl : x2 = .bool x.rules.stores := h2
  obtain rfl : x3 = .bool x.rules.skip := h3
  obtain rfl : x4 = .bool x.rules.relay := h4
  obtain rfl : x5 = .bool x.rules.feed := h5
  obtain rfl : x6 = .bool x.rules.again := h6
  obtain rfl : x7 = .int .i64 x.rules.capture := h7
  obtain rfl : x8 = .int .i64 x.rules.slam := h8
  obtain ⟨A9, c9, rfl, b9, d9⟩ := sl_form h9
  obtain ⟨A10, c10, rfl, b10, d10⟩ := sl_form h10
  obtain rfl : x11 = .int .i64 x.start.player := h11
  obtain ⟨A12, c12, rfl, b12, d12⟩ := ro_form h12
  obtain ⟨A13, c13, rfl, b13, d13⟩ := sl_form h13
  obtain ⟨A14, c14, rfl, b14, d14⟩ := sl_form h14
  obtain rfl : x15 = .int .i64 x.now.player := h15
  obtain rfl : x16 = .int .i64 x.resigned := h16
  exact ⟨A9, c9, A10, c10, A12, c12, A13, c13, A14, c14, rfl, h9, h10, h12, h13, h14, b9, d9, b10, d10, b12, d12, b13, d13, b14, d14⟩
theorem own_GameL {u : World} {v : Value} {fp : List Nat} {x : M.Gam} (h : (Ty.agg (cGameL x)).own u v fp) : ∃ A9 c9 A10 c10 A12 c12 A13 c13 A14 c14, v = .agg #[.int .i64 x.rules.pits, .int .i64 x.rules.seeds, .bool x.rules.stores, .bool x.rules.skip, .bool x.rules.relay, .bool x.rules.feed, .bool x.rules.again, .int .i64 x.rules.capture, .int .i64 x.rules.slam, .slice A9 x.start.pits.length c9, .slice A10 x.start.stores.length c10, .int .i64 x.start.player, .slice A12 x.moves.length c12, .slice A13 x.now.pits.length c13, .slice A14 x.now.stores.length c14, .int .i64 x.now.player, .int .i64 x.resigned] ∧ cellsOwn u (cGameL x) [.int .i64 x.rules.pits, .int .i64 x.rules.seeds, .bool x.rules.stores, .bool x.rules.skip, .bool x.rules.relay, .bool x.rules.feed, .bool x.rules.again, .int .i64 x.rules.capture, .int .i64 x.rules.slam, .slice A9 x.start.pits.length c9, .slice A10 x.start.stores.length c10, .int .i64 x.start.player, .slice A12 x.moves.length c12, .slice A13 x.now.pits.length c13, .slice A14 x.now.stores.length c14, .int .i64 x.now.player, .int .i64 x.resigned] fp ∧ x.start.pits.length ≤ c9 ∧ c9 ≤ 9223372036854775807 ∧ x.start.stores.length ≤ c10 ∧ c10 ≤ 9223372036854775807 ∧ x.moves.length ≤ c12 ∧ c12 ≤ 9223372036854775807 ∧ x.now.pits.length ≤ c13 ∧ c13 ≤ 9223372036854775807 ∧ x.now.stores.length ≤ c14 ∧ c14 ≤ 9223372036854775807 := by
  obtain ⟨vs, rfl, hc⟩ := h
  have h := hc.ok
  obtain ⟨x0, r, rfl, h0, h⟩ := cellsOk_cons h
  obtain ⟨x1, r, rfl, h1, h⟩ := cellsOk_cons h
  obtain ⟨x2, r, rfl, h2, h⟩ := cellsOk_cons h
  obtain ⟨x3, r, rfl, h3, h⟩ := cellsOk_cons h
  obtain ⟨x4, r, rfl, h4, h⟩ := cellsOk_cons h
  obtain ⟨x5, r, rfl, h5, h⟩ := cellsOk_cons h
  obtain ⟨x6, r, rfl, h6, h⟩ := cellsOk_cons h
  obtain ⟨x7, r, rfl, h7, h⟩ := cellsOk_cons h
  obtain ⟨x8, r, rfl, h8, h⟩ := cellsOk_cons h
  obtain ⟨x9, r, rfl, h9, h⟩ := cellsOk_cons h
  obtain ⟨x10, r, rfl, h10, h⟩ := cellsOk_cons h
  obtain ⟨x11, r, rfl, h11, h⟩ := cellsOk_cons h
  obtain ⟨x12, r, rfl, h12, h⟩ := cellsOk_cons h
  obtain ⟨x13, r, rfl, h13, h⟩ := cellsOk_cons h
  obtain ⟨x14, r, rfl, h14, h⟩ := cellsOk_cons h
  obtain ⟨x15, r, rfl, h15, h⟩ := cellsOk_cons h
  obtain ⟨x16, r, rfl, h16, h⟩ := cellsOk_cons h
  obtain rfl := cellsOk_nil h
  obtain rfl : x0 = .int .i64 x.rules.pits := h0
  obtain rfl : x1 = .int .i64 x.rules.seeds := h1
  obtain rfl : x2 = .bool x.rules.stores := h2
  obtain rfl : x3 = .bool x.rules.skip := h3
  obtain rfl : x4 = .bool x.rules.relay := h4
  obtain rfl : x5 = .bool x.rules.feed := h5
  obtain rfl : x6 = .bool x.rules.again := h6
  obtain rfl : x7 = .int .i64 x.rules.capture := h7
  obtain rfl : x8 = .int .i64 x.rules.slam := h8
  obtain ⟨A9, c9, rfl, b9, d9⟩ := sl_form h9
  obtain ⟨A10, c10, rfl, b10, d10⟩ := sl_form h10
  obtain rfl : x11 = .int .i64 x.start.player := h11
  obtain ⟨A12, c12, rfl, b12, d12⟩ := ro_form h12
  obtain ⟨A13, c13, rfl, b13, d13⟩ := sl_form h13
  obtain ⟨A14, c14, rfl, b14, d14⟩ := sl_form h14
  obtain rfl : x15 = .int .i64 x.now.player := h15
  obtain rfl : x16 = .int .i64 x.resigned := h16
  exact ⟨A9, c9, A10, c10, A12, c12, A13, c13, A14, c14, rfl, hc, b9, d9, b10, d10, b12, d12, b13, d13, b14, d14⟩
theorem Spl_GameL (x : M.Gam) : Spl (Ty.agg (cGameL x)) (fun v ow => ∃ A9 c9 A10 c10 A12 c12 A13 c13 A14 c14 f, v = .agg #[.int .i64 x.rules.pits, .int .i64 x.rules.seeds, .bool x.rules.stores, .bool x.rules.skip, .bool x.rules.relay, .bool x.rules.feed, .bool x.rules.again, .int .i64 x.rules.capture, .int .i64 x.rules.slam, .slice A9 x.start.pits.length c9, .slice A10 x.start.stores.length c10, .int .i64 x.start.player, .slice A12 x.moves.length c12, .slice A13 x.now.pits.length c13, .slice A14 x.now.stores.length c14, .int .i64 x.now.player, .int .i64 x.resigned] ∧ ow = [ownC (cGameL x) [.int .i64 x.rules.pits, .int .i64 x.rules.seeds, .bool x.rules.stores, .bool x.rules.skip, .bool x.rules.relay, .bool x.rules.feed, .bool x.rules.again, .int .i64 x.rules.capture, .int .i64 x.rules.slam, .slice A9 x.start.pits.length c9, .slice A10 x.start.stores.length c10, .int .i64 x.start.player, .slice A12 x.moves.length c12, .slice A13 x.now.pits.length c13, .slice A14 x.now.stores.length c14, .int .i64 x.now.player, .int .i64 x.resigned] f] ∧ x.start.pits.length ≤ c9 ∧ c9 ≤ 9223372036854775807 ∧ x.start.stores.length ≤ c10 ∧ c10 ≤ 9223372036854775807 ∧ x.moves.length ≤ c12 ∧ c12 ≤ 9223372036854775807 ∧ x.now.pits.length ≤ c13 ∧ c13 ≤ 9223372036854775807 ∧ x.now.stores.length ≤ c14 ∧ c14 ≤ 9223372036854775807) := fun w v fp h => by
  obtain ⟨A9, c9, A10, c10, A12, c12, A13, c13, A14, c14, rfl, hc, b9, d9, b10, d10, b12, d12, b13, d13, b14, d14⟩ := own_GameL h
  exact ⟨_, ⟨A9, c9, A10, c10, A12, c12, A13, c13, A14, c14, fp, rfl, rfl, b9, d9, b10, d10, b12, d12, b13, d13, b14, d14⟩, by simp [ownC], fun o ho => by simp at ho; subst ho; exact hc⟩
def cGame (x : M.Gam) : List Ty := [Ty.int x.rules.pits, Ty.int x.rules.seeds, Ty.bool x.rules.stores, Ty.bool x.rules.skip, Ty.bool x.rules.relay, Ty.bool x.rules.feed, Ty.bool x.rules.again, Ty.int x.rules.capture, Ty.int x.rules.slam, Ty.ints 2 x.start.pits, Ty.ints 2 x.start.stores, Ty.int x.start.player, Ty.ints 2 x.moves, Ty.ints 2 x.now.pits, Ty.ints 2 x.now.stores, Ty.int x.now.player, Ty.int x.resigned]
theorem open_Game {u : World} {v : Value} {x : M.Gam} (h : (Ty.agg (cGame x)).ok u v) : ∃ A9 c9 A10 c10 A12 c12 A13 c13 A14 c14, v = .agg #[.int .i64 x.rules.pits, .int .i64 x.rules.seeds, .bool x.rules.stores, .bool x.rules.skip, .bool x.rules.relay, .bool x.rules.feed, .bool x.rules.again, .int .i64 x.rules.capture, .int .i64 x.rules.slam, .slice A9 x.start.pits.length c9, .slice A10 x.start.stores.length c10, .int .i64 x.start.player, .slice A12 x.moves.length c12, .slice A13 x.now.pits.length c13, .slice A14 x.now.stores.length c14, .int .i64 x.now.player, .int .i64 x.resigned] ∧ (Ty.ints 2 x.start.pits).ok u (.slice A9 x.start.pits.length c9) ∧ (Ty.ints 2 x.start.stores).ok u (.slice A10 x.start.stores.length c10) ∧ (Ty.ints 2 x.moves).ok u (.slice A12 x.moves.length c12) ∧ (Ty.ints 2 x.now.pits).ok u (.slice A13 x.now.pits.length c13) ∧ (Ty.ints 2 x.now.stores).ok u (.slice A14 x.now.stores.length c14) ∧ x.start.pits.length ≤ c9 ∧ c9 ≤ 9223372036854775807 ∧ x.start.stores.length ≤ c10 ∧ c10 ≤ 9223372036854775807 ∧ x.moves.length ≤ c12 ∧ c12 ≤ 9223372036854775807 ∧ x.now.pits.length ≤ c13 ∧ c13 ≤ 9223372036854775807 ∧ x.now.stores.length ≤ c14 ∧ c14 ≤ 9223372036854775807 := by
  obtain ⟨vs, rfl, h⟩ := h
  obtain ⟨x0, r, rfl, h0, h⟩ := cellsOk_cons h
  obtain ⟨x1, r, rfl, h1, h⟩ := cellsOk_cons h
  obtain ⟨x2, r, rfl, h2, h⟩ := cellsOk_cons h
  obtain ⟨x3, r, rfl, h3, h⟩ := cellsOk_cons h
  obtain ⟨x4, r, rfl, h4, h⟩ := cellsOk_cons h
  obtain ⟨x5, r, rfl, h5, h⟩ := cellsOk_cons h
  obtain ⟨x6, r, rfl, h6, h⟩ := cellsOk_cons h
  obtain ⟨x7, r, rfl, h7, h⟩ := cellsOk_cons h
  obtain ⟨x8, r, rfl, h8, h⟩ := cellsOk_cons h
  obtain ⟨x9, r, rfl, h9, h⟩ := cellsOk_cons h
  obtain ⟨x10, r, rfl, h10, h⟩ := cellsOk_cons h
  obtain ⟨x11, r, rfl, h11, h⟩ := cellsOk_cons h
  obtain ⟨x12, r, rfl, h12, h⟩ := cellsOk_cons h
  obtain ⟨x13, r, rfl, h13, h⟩ := cellsOk_cons h
  obtain ⟨x14, r, rfl, h14, h⟩ := cellsOk_cons h
  obtain ⟨x15, r, rfl, h15, h⟩ := cellsOk_cons h
  obtain ⟨x16, r, rfl, h16, h⟩ := cellsOk_cons h
  obtain rfl := cellsOk_nil h
  obtain rfl : x0 = .int .i64 x.rules.pits := h0
  obtain rfl : x1 = .int .i64 x.rules.seeds := h1
  obtain rfl : x2 = .bool x.rules.stores := h2
  obtain rfl : x3 = .bool x.rules.skip := h3
  obtain rfl : x4 = .bool x.rules.relay := h4
  obtain rfl : x5 = .bool x.rules.feed := h5
  obtain rfl : x6 = .bool x.rules.again := h6
  obtain rfl : x7 = .int .i64 x.rules.capture := h7
  obtain rfl : x8 = .int .i64 x.rules.slam := h8
  obtain ⟨A9, c9, rfl, b9, d9⟩ := sl_form h9
  obtain ⟨A10, c10, rfl, b10, d10⟩ := sl_form h10
  obtain rfl : x11 = .int .i64 x.start.player := h11
  obtain ⟨A12, c12, rfl, b12, d12⟩ := sl_form h12
  obtain ⟨A13, c13, rfl, b13, d13⟩ := sl_form h13
  obtain ⟨A14, c14, rfl, b14, d14⟩ := sl_form h14
  obtain rfl : x15 = .int .i64 x.now.player := h15
  obtain rfl : x16 = .int .i64 x.resigned := h16
  exact ⟨A9, c9, A10, c10, A12, c12, A13, c13, A14, c14, rfl, h9, h10, h12, h13, h14, b9, d9, b10, d10, b12, d12, b13, d13, b14, d14⟩
theorem ref_Game {u : World} {v : Value} {x : M.Gam} (h : (Ty.ref (cGame x)).ok u v) : ∃ b o A9 c9 A10 c10 A12 c12 A13 c13 A14 c14, v = .pointer (some ⟨b, o, none⟩) ∧ RowAt u b o [.int .i64 x.rules.pits, .int .i64 x.rules.seeds, .bool x.rules.stores, .bool x.rules.skip, .bool x.rules.relay, .bool x.rules.feed, .bool x.rules.again, .int .i64 x.rules.capture, .int .i64 x.rules.slam, .slice A9 x.start.pits.length c9, .slice A10 x.start.stores.length c10, .int .i64 x.start.player, .slice A12 x.moves.length c12, .slice A13 x.now.pits.length c13, .slice A14 x.now.stores.length c14, .int .i64 x.now.player, .int .i64 x.resigned] ∧ (Ty.ints 2 x.start.pits).ok u (.slice A9 x.start.pits.length c9) ∧ (Ty.ints 2 x.start.stores).ok u (.slice A10 x.start.stores.length c10) ∧ (Ty.ints 2 x.moves).ok u (.slice A12 x.moves.length c12) ∧ (Ty.ints 2 x.now.pits).ok u (.slice A13 x.now.pits.length c13) ∧ (Ty.ints 2 x.now.stores).ok u (.slice A14 x.now.stores.length c14) ∧ x.start.pits.length ≤ c9 ∧ c9 ≤ 9223372036854775807 ∧ x.start.stores.length ≤ c10 ∧ c10 ≤ 9223372036854775807 ∧ x.moves.length ≤ c12 ∧ c12 ≤ 9223372036854775807 ∧ x.now.pits.length ≤ c13 ∧ c13 ≤ 9223372036854775807 ∧ x.now.stores.length ≤ c14 ∧ c14 ≤ 9223372036854775807 := by
  obtain ⟨b, o, vs, rfl, h, hr⟩ := h
  obtain ⟨x0, r, rfl, h0, h⟩ := cellsOk_cons h
  obtain ⟨x1, r, rfl, h1, h⟩ := cellsOk_cons h
  obtain ⟨x2, r, rfl, h2, h⟩ := cellsOk_cons h
  obtain ⟨x3, r, rfl, h3, h⟩ := cellsOk_cons h
  obtain ⟨x4, r, rfl, h4, h⟩ := cellsOk_cons h
  obtain ⟨x5, r, rfl, h5, h⟩ := cellsOk_cons h
  obtain ⟨x6, r, rfl, h6, h⟩ := cellsOk_cons h
  obtain ⟨x7, r, rfl, h7, h⟩ := cellsOk_cons h
  obtain ⟨x8, r, rfl, h8, h⟩ := cellsOk_cons h
  obtain ⟨x9, r, rfl, h9, h⟩ := cellsOk_cons h
  obtain ⟨x10, r, rfl, h10, h⟩ := cellsOk_cons h
  obtain ⟨x11, r, rfl, h11, h⟩ := cellsOk_cons h
  obtain ⟨x12, r, rfl, h12, h⟩ := cellsOk_cons h
  obtain ⟨x13, r, rfl, h13, h⟩ := cellsOk_cons h
  obtain ⟨x14, r, rfl, h14, h⟩ := cellsOk_cons h
  obtain ⟨x15, r, rfl, h15, h⟩ := cellsOk_cons h
  obtain ⟨x16, r, rfl, h16, h⟩ := cellsOk_cons h
  obtain rfl := cellsOk_nil h
  obtain rfl : x0 = .int .i64 x.rules.pits := h0
  obtain rfl : x1 = .int .i64 x.rules.seeds := h1
  obtain rfl : x2 = .bool x.rules.stores := h2
  obtain rfl : x3 = .bool x.rules.skip := h3
  obtain rfl : x4 = .bool x.rules.relay := h4
  obtain rfl : x5 = .bool x.rules.feed := h5
  obtain rfl : x6 = .bool x.rules.again := h6
  obtain rfl : x7 = .int .i64 x.rules.capture := h7
  obtain rfl : x8 = .int .i64 x.rules.slam := h8
  obtain ⟨A9, c9, rfl, b9, d9⟩ := sl_form h9
  obtain ⟨A10, c10, rfl, b10, d10⟩ := sl_form h10
  obtain rfl : x11 = .int .i64 x.start.player := h11
  obtain ⟨A12, c12, rfl, b12, d12⟩ := sl_form h12
  obtain ⟨A13, c13, rfl, b13, d13⟩ := sl_form h13
  obtain ⟨A14, c14, rfl, b14, d14⟩ := sl_form h14
  obtain rfl : x15 = .int .i64 x.now.player := h15
  obtain rfl : x16 = .int .i64 x.resigned := h16
  exact ⟨b, o, A9, c9, A10, c10, A12, c12, A13, c13, A14, c14, rfl, hr, h9, h10, h12, h13, h14, b9, d9, b10, d10, b12, d12, b13, d13, b14, d14⟩
end Go.Proofs.Ytejnmechnhgmfaa

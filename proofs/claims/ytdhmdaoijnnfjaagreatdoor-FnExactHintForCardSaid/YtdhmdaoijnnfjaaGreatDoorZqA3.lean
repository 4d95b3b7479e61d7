/- The table of types of the program, and what the types of the model are. -/
import Derived.Test.YtdhmdaoijnnfjaaGreatDoorZqA2
import Derived.Test.YtdhmdaoijnnfjaaGreatDoorProg
import Derived.ProofKit
import Derived.SizedLaws
import Derived.Test.YtdhmdaoijnnfjaaGreatDoorZqA1
set_option linter.unusedSimpArgs false
set_option linter.unusedVariables false
namespace Go.Proofs.YtdhmdaoijnnfjaaGreatDoor
open Go.RowKit
theorem cellsOk_cons {w : World} {T : Ty} {Ts : List Ty} : ∀ {vs : List Value}, cellsOk w (T :: Ts) vs → ∃ x r, vs = x :: r ∧ T.ok w x ∧ cellsOk w Ts r
  | x :: r, h => ⟨x, r, rfl, h.1, h.2⟩
theorem cellsOk_nil {w : World} : ∀ {vs : List Value}, cellsOk w [] vs → vs = []
  | [], _ => rfl
theorem drop_flat {α β : Type} (f : α → List β) (k : Nat) (hf : ∀ a, (f a).length = k) : ∀ (l : List α) (i : Nat) (a : α), l[i]? = some a → ((l.flatMap f).drop (i * k)).take k = f a
  | x :: l, 0, a, h => by
    simp at h; subst h
    simp [List.flatMap_cons, hf, List.take_append]
  | x :: l, i + 1, a, h => by
    simp at h
    rw [List.flatMap_cons, Nat.succ_mul, Nat.add_comm, ← List.drop_drop, List.drop_left' (hf x)]
    exact drop_flat f k hf l i a h
  | [], _, _, h => by simp at h
theorem flat_len {α β : Type} (f : α → List β) (k : Nat) (hf : ∀ a, (f a).length = k) : ∀ (l : List α), (l.flatMap f).length = l.length * k
  | [] => by simp
  | x :: l => by rw [List.flatMap_cons, List.length_append, hf, flat_len f k hf l, List.length_cons, Nat.succ_mul, Nat.add_comm]
instance ty_2 : TyI Tryz.prog 2 false 1 := ⟨by kernel_rfl⟩
instance ty_4 : TyI Tryz.prog 4 false 1 := ⟨by kernel_rfl⟩
instance ty_23 : TyI Tryz.prog 23 true 9 := ⟨by kernel_rfl⟩
instance ty_24 : TyI Tryz.prog 24 false 1 := ⟨by kernel_rfl⟩
instance ty_26 : TyI Tryz.prog 26 true 3 := ⟨by kernel_rfl⟩
instance ty_28 : TyI Tryz.prog 28 true 16 := ⟨by kernel_rfl⟩
instance ty_32 : TyI Tryz.prog 32 true 9 := ⟨by kernel_rfl⟩
instance ty_33 : TyI Tryz.prog 33 true 3 := ⟨by kernel_rfl⟩
instance ty_35 : TyI Tryz.prog 35 true 16 := ⟨by kernel_rfl⟩
instance ty_67 : TyI Tryz.prog 67 false 1 := ⟨by kernel_rfl⟩
instance ty_71 : TyI Tryz.prog 71 true 6 := ⟨by kernel_rfl⟩
instance ty_115 : TyI Tryz.prog 115 true 4 := ⟨by kernel_rfl⟩
instance ty_153 : TyI Tryz.prog 153 true 2 := ⟨by kernel_rfl⟩
instance ty_182 : TyI Tryz.prog 182 true 15 := ⟨by kernel_rfl⟩
instance ty_194 : TyI Tryz.prog 194 true 2 := ⟨by kernel_rfl⟩
instance fld_23_0 : FldI Tryz.prog 23 0 0 2 false 1 := ⟨by kernel_rfl⟩
instance fld_23_1 : FldI Tryz.prog 23 1 1 2 false 1 := ⟨by kernel_rfl⟩
instance fld_23_2 : FldI Tryz.prog 23 2 2 4 false 1 := ⟨by kernel_rfl⟩
instance fld_23_3 : FldI Tryz.prog 23 3 3 4 false 1 := ⟨by kernel_rfl⟩
instance fld_23_4 : FldI Tryz.prog 23 4 4 4 false 1 := ⟨by kernel_rfl⟩
instance fld_23_5 : FldI Tryz.prog 23 5 5 4 false 1 := ⟨by kernel_rfl⟩
instance fld_23_6 : FldI Tryz.prog 23 6 6 4 false 1 := ⟨by kernel_rfl⟩
instance fld_23_7 : FldI Tryz.prog 23 7 7 2 false 1 := ⟨by kernel_rfl⟩
instance fld_23_8 : FldI Tryz.prog 23 8 8 2 false 1 := ⟨by kernel_rfl⟩
instance fld_26_0 : FldI Tryz.prog 26 0 0 24 false 1 := ⟨by kernel_rfl⟩
instance fld_26_1 : FldI Tryz.prog 26 1 1 24 false 1 := ⟨by kernel_rfl⟩
instance fld_26_2 : FldI Tryz.prog 26 2 2 2 false 1 := ⟨by kernel_rfl⟩
instance fld_28_0 : FldI Tryz.prog 28 0 0 23 true 9 := ⟨by kernel_rfl⟩
instance fld_28_1 : FldI Tryz.prog 28 1 9 26 true 3 := ⟨by kernel_rfl⟩
instance fld_28_2 : FldI Tryz.prog 28 2 12 2 false 1 := ⟨by kernel_rfl⟩
instance fld_28_3 : FldI Tryz.prog 28 3 13 2 false 1 := ⟨by kernel_rfl⟩
instance fld_28_4 : FldI Tryz.prog 28 4 14 2 false 1 := ⟨by kernel_rfl⟩
instance fld_28_5 : FldI Tryz.prog 28 5 15 2 false 1 := ⟨by kernel_rfl⟩
instance fld_32_0 : FldI Tryz.prog 32 0 0 2 false 1 := ⟨by kernel_rfl⟩
instance fld_32_1 : FldI Tryz.prog 32 1 1 2 false 1 := ⟨by kernel_rfl⟩
instance fld_32_2 : FldI Tryz.prog 32 2 2 4 false 1 := ⟨by kernel_rfl⟩
instance fld_32_3 : FldI Tryz.prog 32 3 3 4 false 1 := ⟨by kernel_rfl⟩
instance fld_32_4 : FldI Tryz.prog 32 4 4 4 false 1 := ⟨by kernel_rfl⟩
instance fld_32_5 : FldI Tryz.prog 32 5 5 4 false 1 := ⟨by kernel_rfl⟩
instance fld_32_6 : FldI Tryz.prog 32 6 6 4 false 1 := ⟨by kernel_rfl⟩
instance fld_32_7 : FldI Tryz.prog 32 7 7 2 false 1 := ⟨by kernel_rfl⟩
instance fld_32_8 : FldI Tryz.prog 32 8 8 2 false 1 := ⟨by kernel_rfl⟩
instance fld_33_0 : FldI Tryz.prog 33 0 0 24 false 1 := ⟨by kernel_rfl⟩
instance fld_33_1 : FldI Tryz.prog 33 1 1 24 false 1 := ⟨by kernel_rfl⟩
instance fld_33_2 : FldI Tryz.prog 33 2 2 2 false 1 := ⟨by kernel_rfl⟩
instance fld_35_0 : FldI Tryz.prog 35 0 0 32 true 9 := ⟨by kernel_rfl⟩
instance fld_35_1 : FldI Tryz.prog 35 1 9 33 true 3 := ⟨by kernel_rfl⟩
instance fld_35_2 : FldI Tryz.prog 35 2 12 2 false 1 := ⟨by kernel_rfl⟩
instance fld_35_3 : FldI Tryz.prog 35 3 13 2 false 1 := ⟨by kernel_rfl⟩
instance fld_35_4 : FldI Tryz.prog 35 4 14 2 false 1 := ⟨by kernel_rfl⟩
instance fld_35_5 : FldI Tryz.prog 35 5 15 2 false 1 := ⟨by kernel_rfl⟩
instance fld_71_0 : FldI Tryz.prog 71 0 0 2 false 1 := ⟨by kernel_rfl⟩
instance fld_71_1 : FldI Tryz.prog 71 1 1 2 false 1 := ⟨by kernel_rfl⟩
instance fld_71_2 : FldI Tryz.prog 71 2 2 4 false 1 := ⟨by kernel_rfl⟩
instance fld_71_3 : FldI Tryz.prog 71 3 3 33 true 3 := ⟨by kernel_rfl⟩
instance fld_115_0 : FldI Tryz.prog 115 0 0 24 false 1 := ⟨by kernel_rfl⟩
instance fld_115_1 : FldI Tryz.prog 115 1 1 24 false 1 := ⟨by kernel_rfl⟩
instance fld_115_2 : FldI Tryz.prog 115 2 2 2 false 1 := ⟨by kernel_rfl⟩
instance fld_115_3 : FldI Tryz.prog 115 3 3 2 false 1 := ⟨by kernel_rfl⟩
instance fld_153_0 : FldI Tryz.prog 153 0 0 2 false 1 := ⟨by kernel_rfl⟩
instance fld_153_1 : FldI Tryz.prog 153 1 1 2 false 1 := ⟨by kernel_rfl⟩
instance fld_182_0 : FldI Tryz.prog 182 0 0 32 true 9 := ⟨by kernel_rfl⟩
instance fld_182_1 : FldI Tryz.prog 182 1 9 2 false 1 := ⟨by kernel_rfl⟩
instance fld_182_2 : FldI Tryz.prog 182 2 10 115 true 4 := ⟨by kernel_rfl⟩
instance fld_182_3 : FldI Tryz.prog 182 3 14 24 false 1 := ⟨by kernel_rfl⟩
instance fld_194_0 : FldI Tryz.prog 194 0 0 67 false 1 := ⟨by kernel_rfl⟩
instance fld_194_1 : FldI Tryz.prog 194 1 1 2 false 1 := ⟨by kernel_rfl⟩
instance eI_24 : ElI Tryz.prog 24 2 1 8 [.int .i64 0] := ⟨by kernel_rfl⟩
theorem el_24 : elOf Tryz.prog 24 = some (2, 1, 8, [.int .i64 0]) := ElI.h
instance eI_65 : ElI Tryz.prog 65 71 6 80 [.int .i64 0, .int .i64 0, .bool false, .slice none 0 0, .slice none 0 0, .int .i64 0] := ⟨by kernel_rfl⟩
theorem el_65 : elOf Tryz.prog 65 = some (71, 6, 80, [.int .i64 0, .int .i64 0, .bool false, .slice none 0 0, .slice none 0 0, .int .i64 0]) := ElI.h
instance eI_113 : ElI Tryz.prog 113 5 1 1 [.int .u8 0] := ⟨by kernel_rfl⟩
theorem el_113 : elOf Tryz.prog 113 = some (5, 1, 1, [.int .u8 0]) := ElI.h
instance eI_149 : ElI Tryz.prog 149 153 2 16 [.int .i64 0, .int .i64 0] := ⟨by kernel_rfl⟩
theorem el_149 : elOf Tryz.prog 149 = some (153, 2, 16, [.int .i64 0, .int .i64 0]) := ElI.h
instance zero_32 : ZeroI Tryz.prog 32 [.int .i64 0, .int .i64 0, .bool false, .bool false, .bool false, .bool false, .bool false, .int .i64 0, .int .i64 0] := ⟨by kernel_rfl⟩
instance zero_33 : ZeroI Tryz.prog 33 [.slice none 0 0, .slice none 0 0, .int .i64 0] := ⟨by kernel_rfl⟩
instance zero_35 : ZeroI Tryz.prog 35 [.int .i64 0, .int .i64 0, .bool false, .bool false, .bool false, .bool false, .bool false, .int .i64 0, .int .i64 0, .slice none 0 0, .slice none 0 0, .int .i64 0, .int .i64 0, .int .i64 0, .int .i64 0, .int .i64 0] := ⟨by kernel_rfl⟩
instance zero_71 : ZeroI Tryz.prog 71 [.int .i64 0, .int .i64 0, .bool false, .slice none 0 0, .slice none 0 0, .int .i64 0] := ⟨by kernel_rfl⟩
instance zero_115 : ZeroI Tryz.prog 115 [.slice none 0 0, .slice none 0 0, .int .i64 0, .int .i64 0] := ⟨by kernel_rfl⟩
instance zero_153 : ZeroI Tryz.prog 153 [.int .i64 0, .int .i64 0] := ⟨by kernel_rfl⟩
instance zero_182 : ZeroI Tryz.prog 182 [.int .i64 0, .int .i64 0, .bool false, .bool false, .bool false, .bool false, .bool false, .int .i64 0, .int .i64 0, .int .i64 0, .slice none 0 0, .slice none 0 0, .int .i64 0, .int .i64 0, .slice none 0 0] := ⟨by kernel_rfl⟩
instance zero_194 : ZeroI Tryz.prog 194 [.pointer none, .int .i64 0] := ⟨by kernel_rfl⟩
instance flds_33 : FldsI Tryz.prog 33 [(0, 1), (1, 1), (2, 1)] := ⟨by kernel_rfl⟩
instance flds_35 : FldsI Tryz.prog 35 [(0, 9), (9, 3), (12, 1), (13, 1), (14, 1), (15, 1)] := ⟨by kernel_rfl⟩
instance flds_71 : FldsI Tryz.prog 71 [(0, 1), (1, 1), (2, 1), (3, 3)] := ⟨by kernel_rfl⟩
instance flds_115 : FldsI Tryz.prog 115 [(0, 1), (1, 1), (2, 1), (3, 1)] := ⟨by kernel_rfl⟩
instance flds_153 : FldsI Tryz.prog 153 [(0, 1), (1, 1)] := ⟨by kernel_rfl⟩
instance flds_182 : FldsI Tryz.prog 182 [(0, 9), (9, 1), (10, 4), (14, 1)] := ⟨by kernel_rfl⟩
instance flds_194 : FldsI Tryz.prog 194 [(0, 1), (1, 1)] := ⟨by kernel_rfl⟩
instance fn_10 : FnI Tryz.prog 10 := ⟨by kernel_rfl⟩
instance fn_11 : FnI Tryz.prog 11 := ⟨by kernel_rfl⟩
instance fn_12 : FnI Tryz.prog 12 := ⟨by kernel_rfl⟩
instance fn_13 : FnI Tryz.prog 13 := ⟨by kernel_rfl⟩
instance fn_14 : FnI Tryz.prog 14 := ⟨by kernel_rfl⟩
instance fn_15 : FnI Tryz.prog 15 := ⟨by kernel_rfl⟩
instance fn_16 : FnI Tryz.prog 16 := ⟨by kernel_rfl⟩
instance fn_25 : FnI Tryz.prog 25 := ⟨by kernel_rfl⟩
instance fn_35 : FnI Tryz.prog 35 := ⟨by kernel_rfl⟩
instance fn_36 : FnI Tryz.prog 36 := ⟨by kernel_rfl⟩
instance fn_37 : FnI Tryz.prog 37 := ⟨by kernel_rfl⟩
instance fn_38 : FnI Tryz.prog 38 := ⟨by kernel_rfl⟩
instance fn_39 : FnI Tryz.prog 39 := ⟨by kernel_rfl⟩
instance fn_40 : FnI Tryz.prog 40 := ⟨by kernel_rfl⟩
instance fn_41 : FnI Tryz.prog 41 := ⟨by kernel_rfl⟩
instance fn_42 : FnI Tryz.prog 42 := ⟨by kernel_rfl⟩
instance fn_43 : FnI Tryz.prog 43 := ⟨by kernel_rfl⟩
instance fn_44 : FnI Tryz.prog 44 := ⟨by kernel_rfl⟩
instance fn_45 : FnI Tryz.prog 45 := ⟨by kernel_rfl⟩
instance fn_46 : FnI Tryz.prog 46 := ⟨by kernel_rfl⟩
instance fn_47 : FnI Tryz.prog 47 := ⟨by kernel_rfl⟩
instance fn_48 : FnI Tryz.prog 48 := ⟨by kernel_rfl⟩
instance fn_49 : FnI Tryz.prog 49 := ⟨by kernel_rfl⟩
instance fn_54 : FnI Tryz.prog 54 := ⟨by kernel_rfl⟩
instance fn_59 : FnI Tryz.prog 59 := ⟨by kernel_rfl⟩
instance fn_66 : FnI Tryz.prog 66 := ⟨by kernel_rfl⟩
instance fn_70 : FnI Tryz.prog 70 := ⟨by kernel_rfl⟩
instance fn_77 : FnI Tryz.prog 77 := ⟨by kernel_rfl⟩
instance fn_78 : FnI Tryz.prog 78 := ⟨by kernel_rfl⟩
instance fn_79 : FnI Tryz.prog 79 := ⟨by kernel_rfl⟩
instance fn_80 : FnI Tryz.prog 80 := ⟨by kernel_rfl⟩
instance fn_81 : FnI Tryz.prog 81 := ⟨by kernel_rfl⟩
instance fn_82 : FnI Tryz.prog 82 := ⟨by kernel_rfl⟩
instance fn_83 : FnI Tryz.prog 83 := ⟨by kernel_rfl⟩
instance fn_84 : FnI Tryz.prog 84 := ⟨by kernel_rfl⟩
instance fn_85 : FnI Tryz.prog 85 := ⟨by kernel_rfl⟩
instance fn_86 : FnI Tryz.prog 86 := ⟨by kernel_rfl⟩
instance fn_87 : FnI Tryz.prog 87 := ⟨by kernel_rfl⟩
instance fn_88 : FnI Tryz.prog 88 := ⟨by kernel_rfl⟩
instance fn_89 : FnI Tryz.prog 89 := ⟨by kernel_rfl⟩
instance fn_90 : FnI Tryz.prog 90 := ⟨by kernel_rfl⟩
instance fn_91 : FnI Tryz.prog 91 := ⟨by kernel_rfl⟩
instance fn_93 : FnI Tryz.prog 93 := ⟨by kernel_rfl⟩
instance fn_99 : FnI Tryz.prog 99 := ⟨by kernel_rfl⟩
instance fn_100 : FnI Tryz.prog 100 := ⟨by kernel_rfl⟩
instance fn_107 : FnI Tryz.prog 107 := ⟨by kernel_rfl⟩
instance fn_108 : FnI Tryz.prog 108 := ⟨by kernel_rfl⟩
instance fn_115 : FnI Tryz.prog 115 := ⟨by kernel_rfl⟩
instance fn_116 : FnI Tryz.prog 116 := ⟨by kernel_rfl⟩
instance fn_117 : FnI Tryz.prog 117 := ⟨by kernel_rfl⟩
instance fn_118 : FnI Tryz.prog 118 := ⟨by kernel_rfl⟩
instance fn_122 : FnI Tryz.prog 122 := ⟨by kernel_rfl⟩
instance fn_123 : FnI Tryz.prog 123 := ⟨by kernel_rfl⟩
instance fn_129 : FnI Tryz.prog 129 := ⟨by kernel_rfl⟩
instance fn_130 : FnI Tryz.prog 130 := ⟨by kernel_rfl⟩
instance fn_131 : FnI Tryz.prog 131 := ⟨by kernel_rfl⟩
instance fn_132 : FnI Tryz.prog 132 := ⟨by kernel_rfl⟩
instance fn_133 : FnI Tryz.prog 133 := ⟨by kernel_rfl⟩
instance fn_134 : FnI Tryz.prog 134 := ⟨by kernel_rfl⟩
instance fn_135 : FnI Tryz.prog 135 := ⟨by kernel_rfl⟩
instance fn_137 : FnI Tryz.prog 137 := ⟨by kernel_rfl⟩
instance fn_138 : FnI Tryz.prog 138 := ⟨by kernel_rfl⟩
instance fn_139 : FnI Tryz.prog 139 := ⟨by kernel_rfl⟩
instance fn_140 : FnI Tryz.prog 140 := ⟨by kernel_rfl⟩
instance fn_141 : FnI Tryz.prog 141 := ⟨by kernel_rfl⟩
instance fn_142 : FnI Tryz.prog 142 := ⟨by kernel_rfl⟩
instance fn_143 : FnI Tryz.prog 143 := ⟨by kernel_rfl⟩
instance fn_144 : FnI Tryz.prog 144 := ⟨by kernel_rfl⟩
instance fn_145 : FnI Tryz.prog 145 := ⟨by kernel_rfl⟩
instance fn_146 : FnI Tryz.prog 146 := ⟨by kernel_rfl⟩
instance fn_147 : FnI Tryz.prog 147 := ⟨by kernel_rfl⟩
instance fn_149 : FnI Tryz.prog 149 := ⟨by kernel_rfl⟩
instance fn_151 : FnI Tryz.prog 151 := ⟨by kernel_rfl⟩
instance fn_157 : FnI Tryz.prog 157 := ⟨by kernel_rfl⟩
instance fn_158 : FnI Tryz.prog 158 := ⟨by kernel_rfl⟩
instance fn_159 : FnI Tryz.prog 159 := ⟨by kernel_rfl⟩
instance fn_160 : FnI Tryz.prog 160 := ⟨by kernel_rfl⟩
instance fn_161 : FnI Tryz.prog 161 := ⟨by kernel_rfl⟩
instance fn_169 : FnI Tryz.prog 169 := ⟨by kernel_rfl⟩
instance fn_170 : FnI Tryz.prog 170 := ⟨by kernel_rfl⟩
instance fn_175 : FnI Tryz.prog 175 := ⟨by kernel_rfl⟩
instance fn_176 : FnI Tryz.prog 176 := ⟨by kernel_rfl⟩
instance fn_177 : FnI Tryz.prog 177 := ⟨by kernel_rfl⟩
instance fn_178 : FnI Tryz.prog 178 := ⟨by kernel_rfl⟩
instance fn_179 : FnI Tryz.prog 179 := ⟨by kernel_rfl⟩
instance fn_180 : FnI Tryz.prog 180 := ⟨by kernel_rfl⟩
instance fn_181 : FnI Tryz.prog 181 := ⟨by kernel_rfl⟩
instance fn_183 : FnI Tryz.prog 183 := ⟨by kernel_rfl⟩
instance fn_184 : FnI Tryz.prog 184 := ⟨by kernel_rfl⟩
instance fn_185 : FnI Tryz.prog 185 := ⟨by kernel_rfl⟩
instance fn_186 : FnI Tryz.prog 186 := ⟨by kernel_rfl⟩
instance fn_191 : FnI Tryz.prog 191 := ⟨by kernel_rfl⟩
instance fn_197 : FnI Tryz.prog 197 := ⟨by kernel_rfl⟩
instance fn_198 : FnI Tryz.prog 198 := ⟨by kernel_rfl⟩
instance fn_199 : FnI Tryz.prog 199 := ⟨by kernel_rfl⟩
instance fn_200 : FnI Tryz.prog 200 := ⟨by kernel_rfl⟩
instance fn_201 : FnI Tryz.prog 201 := ⟨by kernel_rfl⟩
instance fn_202 : FnI Tryz.prog 202 := ⟨by kernel_rfl⟩
instance fn_208 : FnI Tryz.prog 208 := ⟨by kernel_rfl⟩
instance fn_211 : FnI Tryz.prog 211 := ⟨by kernel_rfl⟩
instance uI_4 : UndI Tryz.prog 4 (.bool) := ⟨@Tryz.underlying4⟩
theorem und_4 : Tryz.prog.underlying 4 = some (.bool) := UndI.h
instance uI_9 : UndI Tryz.prog 9 (.string) := ⟨@Tryz.underlying9⟩
theorem und_9 : Tryz.prog.underlying 9 = some (.string) := UndI.h
instance uI_10 : UndI Tryz.prog 10 (.string) := ⟨@Tryz.underlying10⟩
instance uI_11 : UndI Tryz.prog 11 (.string) := ⟨@Tryz.underlying11⟩
instance uI_24 : UndI Tryz.prog 24 (.slice 2) := ⟨@Tryz.underlying24⟩
theorem und_24 : Tryz.prog.underlying 24 = some (.slice 2) := UndI.h
instance uI_65 : UndI Tryz.prog 65 (.slice 71) := ⟨@Tryz.underlying65⟩
theorem und_65 : Tryz.prog.underlying 65 = some (.slice 71) := UndI.h
instance uI_87 : UndI Tryz.prog 87 (.slice 9) := ⟨@Tryz.underlying87⟩
instance uI_95 : UndI Tryz.prog 95 (.slice 33) := ⟨@Tryz.underlying95⟩
instance uI_113 : UndI Tryz.prog 113 (.slice 5) := ⟨@Tryz.underlying113⟩
theorem und_113 : Tryz.prog.underlying 113 = some (.slice 5) := UndI.h
instance uI_149 : UndI Tryz.prog 149 (.slice 153) := ⟨@Tryz.underlying149⟩
theorem und_149 : Tryz.prog.underlying 149 = some (.slice 153) := UndI.h
instance uI_223 : UndI Tryz.prog 223 (.slice 244) := ⟨@Tryz.underlying223⟩
instance uI_242 : UndI Tryz.prog 242 (.slice 4) := ⟨@Tryz.underlying242⟩
instance mixI : MixI Tryz.prog := ⟨by kernel_rfl⟩
@[reducible] def cRules (x : M.Rul) : List Ty := [Ty.int x.pits, Ty.int x.seeds, Ty.bool x.stores, Ty.bool x.skip, Ty.bool x.relay, Ty.bool x.feed, Ty.bool x.again, Ty.int x.capture, Ty.int x.slam]
def lRules (xs : List M.Rul) : List Ty := xs.flatMap cRules
theorem lRules_length (xs : List M.Rul) : (lRules xs).length = xs.length * 9 := flat_len cRules 9 (fun _ => rfl) xs
instance : LenL lRules 9 := ⟨lRules_length⟩
set_option maxRecDepth 100000 in
theorem eqs_Rules (a b : M.Rul) (w : World) : (Op.equalIn 10000 32 (.agg #[.int .i64 a.pits, .int .i64 a.seeds, .bool a.stores, .bool a.skip, .bool a.relay, .bool a.feed, .bool a.again, .int .i64 a.capture, .int .i64 a.slam]) (.agg #[.int .i64 b.pits, .int .i64 b.seeds, .bool b.stores, .bool b.skip, .bool b.relay, .bool b.feed, .bool b.again, .int .i64 b.capture, .int .i64 b.slam])).run Tryz.prog w = .ok (decide (a = b)) w := by
  have u2 := Tryz.underlying2
  have u4 := Tryz.underlying4
  have i2 := run_equalIn_int (P := Tryz.prog) (d := 9998) (t := 2) (k := .i64) (k' := .i64) (h := u2)
  have i4 := run_equalIn_bool (P := Tryz.prog) 9998 (t := 4) u4
  rw [show (10000 : Nat) = 9999 + 1 from rfl, run_equalIn_agg w 9999 32 _ _ (by kernel_rfl) (by kernel_rfl)]
  simp only [Program.fieldsOf, Tryz.underlying32]
  go_simp
  by_cases h : a = b
  · subst h; simp
  rw [decide_eq_false h]
  by_cases h0 : a.pits = b.pits
  case neg => rw [if_neg h0]
  rw [if_pos h0]
  by_cases h1 : a.seeds = b.seeds
  case neg => rw [if_neg h1]
  rw [if_pos h1]
  by_cases h2 : a.stores = b.stores
  case neg => rw [if_neg h2]
  rw [if_pos h2]
  by_cases h3 : a.skip = b.skip
  case neg => rw [if_neg h3]
  rw [if_pos h3]
  by_cases h4 : a.relay = b.relay
  case neg => rw [if_neg h4]
  rw [if_pos h4]
  by_cases h5 : a.feed = b.feed
  case neg => rw [if_neg h5]
  rw [if_pos h5]
  by_cases h6 : a.again = b.again
  case neg => rw [if_neg h6]
  rw [if_pos h6]
  by_cases h7 : a.capture = b.capture
  case neg => rw [if_neg h7]
  rw [if_pos h7]
  by_cases h8 : a.slam = b.slam
  case neg => rw [if_neg h8]
  rw [if_pos h8]
  exact absurd (by cases a; cases b; simp_all) h
@[reducible] def cPosition (x : M.Pos) : List Ty := [Ty.ints 2 x.pits, Ty.ints 2 x.stores, Ty.int x.player]
def lPosition (xs : List M.Pos) : List Ty := xs.flatMap cPosition
theorem lPosition_length (xs : List M.Pos) : (lPosition xs).length = xs.length * 3 := flat_len cPosition 3 (fun _ => rfl) xs
instance : LenL lPosition 3 := ⟨lPosition_length⟩
@[reducible] def cSown (x : M.Sw) : List Ty := [Ty.ints 2 x.pits, Ty.ints 2 x.stores, Ty.int x.last, Ty.int x.laps]
def lSown (xs : List M.Sw) : List Ty := xs.flatMap cSown
theorem lSown_length (xs : List M.Sw) : (lSown xs).length = xs.length * 4 := flat_len cSown 4 (fun _ => rfl) xs
instance : LenL lSown 4 := ⟨lSown_length⟩
@[reducible] def csowing (x : M.Sow) : List Ty := [Ty.int x.rules.pits, Ty.int x.rules.seeds, Ty.bool x.rules.stores, Ty.bool x.rules.skip, Ty.bool x.rules.relay, Ty.bool x.rules.feed, Ty.bool x.rules.again, Ty.int x.rules.capture, Ty.int x.rules.slam, Ty.int x.player, Ty.ints 2 x.sown.pits, Ty.ints 2 x.sown.stores, Ty.int x.sown.last, Ty.int x.sown.laps, Ty.ints 2 x.path]
theorem ref_sowing {u : World} {v : Value} {x : M.Sow} (h : (Ty.ref (csowing x)).ok u v) : ∃ b o A10 c10 A11 c11 A14 c14, v = .pointer (some ⟨b, o, none⟩) ∧ RowAt u b o [.int .i64 x.rules.pits, .int .i64 x.rules.seeds, .bool x.rules.stores, .bool x.rules.skip, .bool x.rules.relay, .bool x.rules.feed, .bool x.rules.again, .int .i64 x.rules.capture, .int .i64 x.rules.slam, .int .i64 x.player, .slice A10 x.sown.pits.length c10, .slice A11 x.sown.stores.length c11, .int .i64 x.sown.last, .int .i64 x.sown.laps, .slice A14 x.path.length c14] ∧ (Ty.ints 2 x.sown.pits).ok u (.slice A10 x.sown.pits.length c10) ∧ (Ty.ints 2 x.sown.stores).ok u (.slice A11 x.sown.stores.length c11) ∧ (Ty.ints 2 x.path).ok u (.slice A14 x.path.length c14) ∧ x.sown.pits.length ≤ c10 ∧ c10 ≤ 9223372036854775807 ∧ x.sown.stores.length ≤ c11 ∧ c11 ≤ 9223372036854775807 ∧ x.path.length ≤ c14 ∧ c14 ≤ 9223372036854775807 := by
  obtain ⟨b, o, vs, rfl, h, hr⟩ := h
  obtain ⟨x0, r, rfl, h0, h⟩ := cellsOk_cons h
  obtain ⟨x1, r, rfl, h1, h⟩ := cellsOk_cons h
  obtain ⟨x2, r, rfl, h2, h⟩ := cellsOk_cons h
  obtain ⟨x3, r, rfl, h3, h⟩ := cellsOk_cons h
  obtain ⟨x4, r, rfl, h4, h⟩ := cellsOk_cons h
  obtain ⟨x5, r, rfl, h5, h⟩ := cellsOk_cons h
  obtain ⟨x6, r, rfl, h6, h⟩ := cellsOk_cons h
  obtain ⟨x7, r, rfl, h7, h⟩ := cellsOk_cons h
  obtain ⟨x8, r, rfl, h8, h⟩ := cellsOk_cons h
  obtain ⟨x9, r, rfl, h9, h⟩ := cellsOk_cons h
  obtain ⟨x10, r, rfl, h10, h⟩ := cellsOk_cons h
  obtain ⟨x11, r, rfl, h11, h⟩ := cellsOk_cons h
  obtain ⟨x12, r, rfl, h12, h⟩ := cellsOk_cons h
  obtain ⟨x13, r, rfl, h13, h⟩ := cellsOk_cons h
  obtain ⟨x14, r, rfl, h14, h⟩ := cellsOk_cons h
  obtain rfl := cellsOk_nil h
  obtain rfl : x0 = .int .i64 x.rules.pits := h0
  obtain rfl : x1 = .int .i64 x.rules.seeds := h1
  obtain rfl : x2 = .bool x.rules.stores := h2
  obtain rfl : x3 = .bool x.rules.skip := h3
  obtain rfl : x4 = .bool x.rules.relay := h4
  obtain rfl : x5 = .bool x.rules.feed := h5
  obtain rfl : x6 = .bool x.rules.again := h6
  obtain rfl : x7 = .int .i64 x.rules.capture := h7
  obtain rfl : x8 = .int .i64 x.rules.slam := h8
  obtain rfl : x9 = .int .i64 x.player := h9
  obtain ⟨A10, c10, rfl, b10, d10⟩ := sl_form h10
  obtain ⟨A11, c11, rfl, b11, d11⟩ := sl_form h11
  obtain rfl : x12 = .int .i64 x.sown.last := h12
  obtain rfl : x13 = .int .i64 x.sown.laps := h13
  obtain ⟨A14, c14, rfl, b14, d14⟩ := sl_form h14
  exact ⟨b, o, A10, c10, A11, c11, A14, c14, rfl, hr, h10, h11, h14, b10, d10, b11, d11, b14, d14⟩
def lsowing (xs : List M.Sow) : List Ty := xs.flatMap csowing
theorem lsowing_length (xs : List M.Sow) : (lsowing xs).length = xs.length * 15 := flat_len csowing 15 (fun _ => rfl) xs
instance : LenL lsowing 15 := ⟨lsowing_length⟩
@[reducible] def cResult (x : M.Res) : List Ty := [Ty.int x.move, Ty.int x.gain, Ty.bool x.again, Ty.ints 2 x.next.pits, Ty.ints 2 x.next.stores, Ty.int x.next.player]
def lResult (xs : List M.Res) : List Ty := xs.flatMap cResult
theorem lResult_length (xs : List M.Res) : (lResult xs).length = xs.length * 6 := flat_len cResult 6 (fun _ => rfl) xs
instance : LenL lResult 6 := ⟨lResult_length⟩
theorem elem_Result {u : World} {e c i : Nat} {A : Option Addr} {xs : List M.Res} {x : M.Res} (h : (Ty.sl e 6 xs.length (lResult xs)).ok u (.slice A xs.length c)) (hi : xs[i]? = some x) : ∃ b o A3 c3 A4 c4, elemA 6 (.slice A xs.length c) i = some ⟨b, o, none⟩ ∧ RowAt u b o [.int .i64 x.move, .int .i64 x.gain, .bool x.again, .slice A3 x.next.pits.length c3, .slice A4 x.next.stores.length c4, .int .i64 x.next.player] ∧ (Ty.ints 2 x.next.pits).ok u (.slice A3 x.next.pits.length c3) ∧ (Ty.ints 2 x.next.stores).ok u (.slice A4 x.next.stores.length c4) ∧ x.next.pits.length ≤ c3 ∧ c3 ≤ 9223372036854775807 ∧ x.next.stores.length ≤ c4 ∧ c4 ≤ 9223372036854775807 := by
  obtain ⟨b, o, vs, he, h, hr⟩ := sl_elem h (List.getElem?_eq_some_iff.1 hi).1 rfl
  have e := drop_flat cResult 6 (fun _ => rfl) xs i x hi
  unfold lResult at h
  rw [e] at h
  obtain ⟨x0, r, rfl, h0, h⟩ := cellsOk_cons h
  obtain ⟨x1, r, rfl, h1, h⟩ := cellsOk_cons h
  obtain ⟨x2, r, rfl, h2, h⟩ := cellsOk_cons h
  obtain ⟨x3, r, rfl, h3, h⟩ := cellsOk_cons h
  obtain ⟨x4, r, rfl, h4, h⟩ := cellsOk_cons h
  obtain ⟨x5, r, rfl, h5, h⟩ := cellsOk_cons h
  obtain rfl := cellsOk_nil h
  obtain rfl : x0 = .int .i64 x.move := h0
  obtain rfl : x1 = .int .i64 x.gain := h1
  obtain rfl : x2 = .bool x.again := h2
  obtain ⟨A3, c3, rfl, b3, d3⟩ := sl_form h3
  obtain ⟨A4, c4, rfl, b4, d4⟩ := sl_form h4
  obtain rfl : x5 = .int .i64 x.next.player := h5
  exact ⟨b, o, A3, c3, A4, c4, he, hr, h3, h4, b3, d3, b4, d4⟩
theorem elemv_Result {w : World} {i : Nat} {xs : List M.Res} {x : M.Res} {vs : List Value} (h : cellsOk w (lResult xs) vs) (hi : xs[i]? = some x) : ∃ A3 c3 A4 c4, (vs.drop (0 + i * 6)).take 6 = [.int .i64 x.move, .int .i64 x.gain, .bool x.again, .slice A3 x.next.pits.length c3, .slice A4 x.next.stores.length c4, .int .i64 x.next.player] ∧ x.next.pits.length ≤ c3 ∧ c3 ≤ 9223372036854775807 ∧ x.next.stores.length ≤ c4 ∧ c4 ≤ 9223372036854775807 := by
  rw [Nat.zero_add]
  have h := cellsOk.take 6 (cellsOk.drop (i * 6) h)
  rw [lResult, drop_flat cResult 6 (fun _ => rfl) xs i x hi] at h
  generalize (vs.drop (i * 6)).take 6 = vs at h ⊢
  obtain ⟨x0, r, rfl, h0, h⟩ := cellsOk_cons h
  obtain ⟨x1, r, rfl, h1, h⟩ := cellsOk_cons h
  obtain ⟨x2, r, rfl, h2, h⟩ := cellsOk_cons h
  obtain ⟨x3, r, rfl, h3, h⟩ := cellsOk_cons h
  obtain ⟨x4, r, rfl, h4, h⟩ := cellsOk_cons h
  obtain ⟨x5, r, rfl, h5, h⟩ := cellsOk_cons h
  obtain rfl := cellsOk_nil h
  obtain rfl : x0 = .int .i64 x.move := h0
  obtain rfl : x1 = .int .i64 x.gain := h1
  obtain rfl : x2 = .bool x.again := h2
  obtain ⟨A3, c3, rfl, b3, d3⟩ := sl_form h3
  obtain ⟨A4, c4, rfl, b4, d4⟩ := sl_form h4
  obtain rfl : x5 = .int .i64 x.next.player := h5
  exact ⟨A3, c3, A4, c4, rfl, b3, d3, b4, d4⟩
theorem lResult_snoc (xs : List M.Res) (x : M.Res) : lResult xs ++ cResult x = lResult (xs ++ [x]) := by simp [lResult]
theorem pack_Result {w : World} {x : M.Res} {v1 v2 : Value} {f1 f2 : List Nat} (h1 : (Ty.ints 2 x.next.pits).own w v1 f1) (h2 : (Ty.ints 2 x.next.stores).own w v2 f2) : cellsOwn w (cResult x) [.int .i64 x.move, .int .i64 x.gain, .bool x.again, v1, v2, .int .i64 x.next.player] (f1 ++ f2) :=
  ⟨[], f1 ++ f2, rfl, ⟨rfl, rfl⟩, ⟨[], f1 ++ f2, rfl, ⟨rfl, rfl⟩, ⟨[], f1 ++ f2, rfl, ⟨rfl, rfl⟩, ⟨f1, f2, rfl, h1, ⟨f2, [], (List.append_nil _).symm, h2, ⟨[], [], rfl, ⟨rfl, rfl⟩, rfl⟩⟩⟩⟩⟩⟩
@[reducible] def cResultL (x : M.Res) : List Ty := [Ty.int x.move, Ty.int x.gain, Ty.bool x.again, Ty.any, Ty.any, Ty.any]
def lResultL (xs : List M.Res) : List Ty := xs.flatMap cResultL
theorem lResultL_length (xs : List M.Res) : (lResultL xs).length = xs.length * 6 := flat_len cResultL 6 (fun _ => rfl) xs
instance : LenL lResultL 6 := ⟨lResultL_length⟩
@[reducible] def cOption (x : M.Opt) : List Ty := [Ty.int x.move, Ty.int x.value]
def lOption (xs : List M.Opt) : List Ty := xs.flatMap cOption
theorem lOption_length (xs : List M.Opt) : (lOption xs).length = xs.length * 2 := flat_len cOption 2 (fun _ => rfl) xs
instance : LenL lOption 2 := ⟨lOption_length⟩
theorem elem_Option {u : World} {e c i : Nat} {A : Option Addr} {xs : List M.Opt} {x : M.Opt} (h : (Ty.sl e 2 xs.length (lOption xs)).ok u (.slice A xs.length c)) (hi : xs[i]? = some x) : ∃ b o, elemA 2 (.slice A xs.length c) i = some ⟨b, o, none⟩ ∧ RowAt u b o [.int .i64 x.move, .int .i64 x.value] := by
  obtain ⟨b, o, vs, he, h, hr⟩ := sl_elem h (List.getElem?_eq_some_iff.1 hi).1 rfl
  have e := drop_flat cOption 2 (fun _ => rfl) xs i x hi
  unfold lOption at h
  rw [e] at h
  obtain ⟨x0, r, rfl, h0, h⟩ := cellsOk_cons h
  obtain ⟨x1, r, rfl, h1, h⟩ := cellsOk_cons h
  obtain rfl := cellsOk_nil h
  obtain rfl : x0 = .int .i64 x.move := h0
  obtain rfl : x1 = .int .i64 x.value := h1
  exact ⟨b, o, he, hr⟩
theorem lOption_snoc (xs : List M.Opt) (x : M.Opt) : lOption xs ++ cOption x = lOption (xs ++ [x]) := by simp [lOption]
@[reducible] def cPuzzle (x : M.Puz) : List Ty := [Ty.int x.rules.pits, Ty.int x.rules.seeds, Ty.bool x.rules.stores, Ty.bool x.rules.skip, Ty.bool x.rules.relay, Ty.bool x.rules.feed, Ty.bool x.rules.again, Ty.int x.rules.capture, Ty.int x.rules.slam, Ty.ints 2 x.position.pits, Ty.ints 2 x.position.stores, Ty.int x.position.player, Ty.int x.depth, Ty.int x.move, Ty.int x.value, Ty.int x.margin]
def lPuzzle (xs : List M.Puz) : List Ty := xs.flatMap cPuzzle
theorem lPuzzle_length (xs : List M.Puz) : (lPuzzle xs).length = xs.length * 16 := flat_len cPuzzle 16 (fun _ => rfl) xs
instance : LenL lPuzzle 16 := ⟨lPuzzle_length⟩
@[reducible] def cPositionL (x : M.Pos) : List Ty := [Ty.rx 2 x.pits, Ty.ints 2 x.stores, Ty.int x.player]
def lPositionL (xs : List M.Pos) : List Ty := xs.flatMap cPositionL
theorem lPositionL_length (xs : List M.Pos) : (lPositionL xs).length = xs.length * 3 := flat_len cPositionL 3 (fun _ => rfl) xs
instance : LenL lPositionL 3 := ⟨lPositionL_length⟩
@[reducible] def cGameL (x : M.Gam) : List Ty := [Ty.int x.rules.pits, Ty.int x.rules.seeds, Ty.bool x.rules.stores, Ty.bool x.rules.skip, Ty.bool x.rules.relay, Ty.bool x.rules.feed, Ty.bool x.rules.again, Ty.int x.rules.capture, Ty.int x.rules.slam, Ty.ints 2 x.start.pits, Ty.ints 2 x.start.stores, Ty.int x.start.player, Ty.ro 2 x.moves, Ty.ints 2 x.now.pits, Ty.ints 2 x.now.stores, Ty.int x.now.player, Ty.int x.resigned]
def lGameL (xs : List M.Gam) : List Ty := xs.flatMap cGameL
theorem lGameL_length (xs : List M.Gam) : (lGameL xs).length = xs.length * 17 := flat_len cGameL 17 (fun _ => rfl) xs
instance : LenL lGameL 17 := ⟨lGameL_length⟩
@[reducible] def cGame (x : M.Gam) : List Ty := [Ty.int x.rules.pits, Ty.int x.rules.seeds, Ty.bool x.rules.stores, Ty.bool x.rules.skip, Ty.bool x.rules.relay, Ty.bool x.rules.feed, Ty.bool x.rules.again, Ty.int x.rules.capture, Ty.int x.rules.slam, Ty.ints 2 x.start.pits, Ty.ints 2 x.start.stores, Ty.int x.start.player, Ty.ints 2 x.moves, Ty.ints 2 x.now.pits, Ty.ints 2 x.now.stores, Ty.int x.now.player, Ty.int x.resigned]
def lGame (xs : List M.Gam) : List Ty := xs.flatMap cGame
theorem lGame_length (xs : List M.Gam) : (lGame xs).length = xs.length * 17 := flat_len cGame 17 (fun _ => rfl) xs
instance : LenL lGame 17 := ⟨lGame_length⟩
end Go.Proofs.YtdhmdaoijnnfjaaGreatDoor

namespace Go.Proofs.YtdhmdaoijnnfjaaGreatDoor
open Go.RowKit Go.ChangeShapes Go.WideShapes Go.ChangeAt
theorem cell_of {w : World} {b o : Nat} {x : Value} (h : w.cell? ⟨b, o, none⟩ = some x) : Cell w b o x := by
  unfold World.cell? at h
  split at h
  · rename_i c t f hb
    exact ⟨c, t, f, hb, by simpa using h⟩
  all_goals simp at h
section
variable {H : Type} {enc : TypeId × Value → H} {w : World} {spare : Nat → Bool} {held : Bool} {fuel : Nat} {x : DataW H × List MemPlace} {cs : List Value}
theorem rd_cat {Ts Us : List Ty} (a s : Nat) (h1 : cellsOk w Ts ((cs.drop a).take s)) (h2 : cellsOk w Us (cs.drop (a + s))) : cellsOk w (Ts ++ Us) (cs.drop a) := by
  have := h1.append h2
  rwa [← List.drop_drop, List.take_append_drop] at this
theorem rd_end {n : Nat} (h : cs.length = n) : cellsOk w [] (cs.drop n) := by rw [List.drop_eq_nil_of_le (by omega)]; trivial
theorem rd_int {P : Program} {t : TypeId} (ht : P.underlying t = some (.int .i64)) (h : DataW.trod enc P w 0 spare held fuel t cs = some x) : ∃ n : Int, cellsOk w [Ty.int n] cs := by
  obtain ⟨n, rfl, _, _⟩ := DataW.trod_int ht h
  exact ⟨n, rfl, trivial⟩
theorem rd_bool {P : Program} {t : TypeId} (ht : P.underlying t = some .bool) (h : DataW.trod enc P w 0 spare held fuel t cs = some x) : ∃ b : Bool, cellsOk w [Ty.bool b] cs := by
  obtain ⟨b, rfl, _⟩ := DataW.trod_bool ht h
  exact ⟨b, rfl, trivial⟩
theorem rd_ints {P : Program} {t e : TypeId} (ht : P.underlying t = some (.slice e)) (he : P.underlying e = some (.int .i64)) (hc : P.cellsOf e = 1) (h : DataW.trod enc P w 0 spare held fuel t cs = some x) : ∃ xs : List Int, cellsOk w [Ty.ints e xs] cs := by
  rcases open_ints ht he hc h with ⟨rfl, _⟩ | ⟨a, len, cap, zs, rfl, _, hl, hm, hz, _, hcell, _⟩
  · exact ⟨[], nil_ok, trivial⟩
  · have hlz : len ≤ zs.length := by rw [hz]; split <;> omega
    have hlen : (zs.take len).length = len := by simp; omega
    refine ⟨zs.take len, ⟨by simp, some a, cap, ints_ (zs.take len), by rw [hlen], by rw [hlen]; exact hl, hm, (ints_own w _).ok, fun hp => ?_⟩, trivial⟩
    have hp : 0 < len := by rw [List.length_map, hlen] at hp; exact hp
    obtain ⟨b, off, spot⟩ := a
    have hspot : spot = none := by simpa [Addr.add] using World.cell?_spot (hcell 0 (by omega))
    subst hspot
    refine ⟨b, off, rfl, fun j v hj => ?_⟩
    simp only [ints_, List.getElem?_map, Option.map_eq_some_iff] at hj
    obtain ⟨n, hn, rfl⟩ := hj
    rw [List.getElem?_take] at hn
    split at hn
    · rename_i hjl
      have := hcell j (by omega)
      rw [addr_add] at this
      have e : zs.getD j 0 = n := by simp [List.getD, hn]
      rw [e] at this
      exact cell_of this
    · simp at hn
end
end Go.Proofs.YtdhmdaoijnnfjaaGreatDoor

namespace Go.Proofs.YtdhmdaoijnnfjaaGreatDoor
open Go.RowKit Go.ChangeShapes Go.WideShapes Go.ChangeAt
section
variable {H : Type} {enc : TypeId × Value → H} {w : World} {spare : Nat → Bool} {held : Bool} {fuel : Nat} {x : DataW H × List MemPlace} {cs : List Value}
end
end Go.Proofs.YtdhmdaoijnnfjaaGreatDoor

namespace Go.Proofs.YtdhmdaoijnnfjaaGreatDoor.M
def joinN (l : List Int) : Nat → List UInt8
  | 0 => []
  | k + 1 => (if 0 < k then joinN l k ++ [44] else joinN l k) ++ dec (nth l k)
def joinT (l : List Int) : List UInt8 := joinN l l.length
theorem joinN_len (l : List Int) : ∀ k : Nat, (joinN l k).length ≤ 22 * k
  | 0 => by simp [joinN]
  | k + 1 => by
    have h1 := joinN_len l k; have h2 := dec_len (nth l k)
    rw [joinN]; split <;> simp only [List.length_append, List.length_cons, List.length_nil] <;> omega
theorem joinN_p {l : List Int} {o : List UInt8} {k : Nat} (h : o = joinN l k) (hk : 0 < k) : (o ++ [44]) ++ dec (nth l k) = joinN l (k + 1) := by rw [joinN, if_pos hk, h]
theorem joinN_z {l : List Int} {o : List UInt8} {k : Nat} (h : o = joinN l k) (hk : ¬ 0 < k) : o ++ dec (nth l k) = joinN l (k + 1) := by rw [joinN, if_neg hk, h]
theorem joinN_big {l : List Int} {o : List UInt8} {k : Nat} (h : o = joinN l k) (hk : k ≤ 4194304) : o.length ≤ 92274688 := by rw [h]; have := joinN_len l k; omega
theorem joinN_e {l : List Int} {o : List UInt8} {k : Nat} (h : o = joinN l k) (hk : l.length ≤ k) (hk2 : k ≤ l.length) : o = joinT l := by rw [h, joinT, Nat.le_antisymm hk hk2]
theorem joinT_len (l : List Int) : (joinT l).length ≤ 22 * l.length := joinN_len l _
def Rng (l : List Int) : Prop := ∀ a ∈ l, -9223372036854775808 ≤ a ∧ a ≤ 9223372036854775807
theorem Rng.nth {l : List Int} (h : Rng l) (k : Nat) : -9223372036854775808 ≤ nth l k ∧ M.nth l k ≤ 9223372036854775807 := by
  by_cases hk : k < l.length
  · exact h _ (nth_mem hk)
  · simp [M.nth, List.getD, List.getElem?_eq_none (Nat.le_of_not_lt hk)]
theorem Rng.ok {l : List Int} (h : allOk l = true) : Rng l := fun a ha => by
  unfold allOk at h; rw [List.all_eq_true] at h
  have := betw_iff.1 (h _ ha); omega
theorem Rng.take {l : List Int} (h : Rng l) (k : Nat) : Rng (l.take k) := fun a ha => h a (List.mem_of_mem_take ha)
theorem Rng.drop {l : List Int} (h : Rng l) (k : Nat) : Rng (l.drop k) := fun a ha => h a (List.mem_of_mem_drop ha)
def posText (p : Pos) : List UInt8 := dec p.player ++ [32] ++ joinT (p.pits.take (p.pits.length / 2)) ++ [47] ++ joinT (p.pits.drop (p.pits.length / 2)) ++ [32] ++ joinT p.stores
theorem posText_len {p : Pos} (h1 : p.pits.length ≤ 16) (h2 : p.stores.length ≤ 2) : (posText p).length ≤ 1000 := by
  have a := dec_len p.player
  have b := joinT_len (p.pits.take (p.pits.length / 2)); have c := joinT_len (p.pits.drop (p.pits.length / 2)); have d := joinT_len p.stores
  rw [List.length_take] at b; rw [List.length_drop] at c
  unfold posText
  simp only [List.length_append, List.length_cons, List.length_nil]; omega
def posTextR (r : Rul) (p : Pos) : List UInt8 := if okP r p = true then posText p else []
theorem posTextR_yes {r : Rul} {p : Pos} (h : okP r p = true) : posTextR r p = posText p := by unfold posTextR; rw [if_pos h]
theorem posTextR_no {r : Rul} {p : Pos} (h : okP r p = false) : posTextR r p = [] := by unfold posTextR; rw [if_neg (by simp [h])]
theorem half {r : Rul} {p : Pos} (h : okP r p = true) : r.pits.toNat = p.pits.length / 2 := by have := okP_bd h; omega
def puzText (z : Puz) : List UInt8 := if okZ z = true then posText z.position ++ [32, 100, 101, 112, 116, 104, 32] ++ dec z.depth else []
theorem puzText_yes {z : Puz} (h : okZ z = true) : puzText z = posText z.position ++ [32, 100, 101, 112, 116, 104, 32] ++ dec z.depth := by unfold puzText; rw [if_pos h]
theorem puzText_no {z : Puz} (h : okZ z = false) : puzText z = [] := by unfold puzText; rw [if_neg (by simp [h])]
theorem second_bd {m : Int} {lo hi : Int} : ∀ (l : List Opt) (s : Int), lo ≤ s → s ≤ hi → (∀ o ∈ l, lo ≤ o.value ∧ o.value ≤ hi) → lo ≤ second m s l ∧ second m s l ≤ hi
  | [], s, h1, h2, _ => by rw [second]; exact ⟨h1, h2⟩
  | o :: l, s, h1, h2, h => by
    have ho := h o (List.mem_cons_self)
    rw [second]; apply second_bd l
    · split <;> (try split) <;> omega
    · split <;> (try split) <;> omega
    · exact fun o' ho' => h o' (List.mem_cons_of_mem _ ho')
theorem okZ_more {z : Puz} (h : okZ z = true) : (make z.rules z.position z.move).2 = 0 ∧ -4000 ≤ z.margin ∧ z.margin ≤ 4000 ∧ 0 ≤ z.move ∧ z.move ≤ 8 := by
  obtain ⟨a, b⟩ := okZ_parts h
  have ho := optsC_ok a
  have e1 : (puz z.rules z.position z.depth).1.margin = z.margin := by rw [b]
  have e2 : (puz z.rules z.position z.depth).1.move = z.move := by rw [b]
  unfold puz at b e1 e2
  rw [if_neg (by simpa using a)] at b e1 e2
  by_cases h2 : (opts z.rules z.position z.depth).length < 2
  · rw [if_pos h2] at b; simp at b
  rw [if_neg h2] at b e1 e2
  split at b
  · simp at b
  · rename_i h3
    rw [if_neg h3] at e1 e2
    have hb := fun (o : Opt) (h : o ∈ opts z.rules z.position z.depth) => opts_bd ho.1 (by omega) ho.2.2.1 h
    have h4 := hb _ (bOpt_mem (l := opts z.rules z.position z.depth) (by omega))
    have h5 := second_bd (m := (bOpt (opts z.rules z.position z.depth)).move) (lo := -2000) (hi := 2000) (opts z.rules z.position z.depth) (-1000) (by omega) (by omega) hb
    have h6 := bOpt_make (depth := z.depth) (r := z.rules) (p := z.position) (by rw [← opts_len z.rules z.position z.depth]; omega)
    simp only at e1 e2
    rw [e2] at h6
    have h7 := make_ok h6.1
    have h8 := okP_bd h7.1
    exact ⟨h6.1, by omega, by omega, by omega, by omega⟩
def hint (z : Puz) (level : Int) : List UInt8 × Int :=
  if okZ z = true then
    (if level = 0 then ([116, 104, 101, 114, 101, 32, 97, 114, 101, 32] ++ dec ((results z.rules z.position).length : Int) ++ [32, 109, 111, 118, 101, 115], 0)
    else if level = 1 then ([116, 104, 101, 32, 98, 101, 115, 116, 32, 109, 111, 118, 101, 32, 103, 97, 105, 110, 115, 32] ++ dec (make z.rules z.position z.move).1.gain ++ [32, 97, 116, 32, 111, 110, 99, 101], 0)
    else if level = 2 then ([97, 108, 108, 32, 111, 116, 104, 101, 114, 115, 32, 97, 114, 101, 32, 119, 111, 114, 115, 101, 32, 98, 121, 32] ++ dec z.margin, 0)
    else if level = 3 then ([112, 108, 97, 121, 32] ++ dec z.move, 0)
    else ([], 2))
  else ([], 1)
theorem hint_yes {z : Puz} {level : Int} (h : okZ z = true) : hint z level = (if level = 0 then ([116, 104, 101, 114, 101, 32, 97, 114, 101, 32] ++ dec ((results z.rules z.position).length : Int) ++ [32, 109, 111, 118, 101, 115], 0)
    else if level = 1 then ([116, 104, 101, 32, 98, 101, 115, 116, 32, 109, 111, 118, 101, 32, 103, 97, 105, 110, 115, 32] ++ dec (make z.rules z.position z.move).1.gain ++ [32, 97, 116, 32, 111, 110, 99, 101], 0)
    else if level = 2 then ([97, 108, 108, 32, 111, 116, 104, 101, 114, 115, 32, 97, 114, 101, 32, 119, 111, 114, 115, 101, 32, 98, 121, 32] ++ dec z.margin, 0)
    else if level = 3 then ([112, 108, 97, 121, 32] ++ dec z.move, 0)
    else ([], 2)) := by unfold hint; rw [if_pos h]
theorem hint_no {z : Puz} {level : Int} (h : okZ z = false) : hint z level = ([], 1) := by unfold hint; rw [if_neg (by simp [h])]
end Go.Proofs.YtdhmdaoijnnfjaaGreatDoor.M


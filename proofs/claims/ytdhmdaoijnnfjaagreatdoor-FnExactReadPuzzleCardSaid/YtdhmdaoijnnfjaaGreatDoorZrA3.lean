/- The table of types of the program, and what the types of the model are. -/
import Derived.Test.YtdhmdaoijnnfjaaGreatDoorZrA2
import Derived.Test.YtdhmdaoijnnfjaaGreatDoorProg
import Derived.ProofKit
import Derived.SizedLaws
import Derived.Test.YtdhmdaoijnnfjaaGreatDoorZrA1
import Derived.Laws.IdiomStrings
import Derived.Laws.IdiomCopy
import Derived.Laws.Slices
import Derived.Laws.Strings2
set_option linter.unusedSimpArgs false
set_option linter.unusedVariables false
namespace Go.Proofs.YtdhmdaoijnnfjaaGreatDoor
open Go.RowKit
theorem cellsOk_cons {w : World} {T : Ty} {Ts : List Ty} : ∀ {vs : List Value}, cellsOk w (T :: Ts) vs → ∃ x r, vs = x :: r ∧ T.ok w x ∧ cellsOk w Ts r
  | x :: r, h => ⟨x, r, rfl, h.1, h.2⟩
theorem cellsOk_nil {w : World} : ∀ {vs : List Value}, cellsOk w [] vs → vs = []
  | [], _ => rfl
theorem drop_flat {α β : Type} (f : α → List β) (k : Nat) (hf : ∀ a, (f a).length = k) : ∀ (l : List α) (i : Nat) (a : α), l[i]? = some a → ((l.flatMap f).drop (i * k)).take k = f a
  | x :: l, 0, a, h => by
    simp at h; subst h
    simp [List.flatMap_cons, hf, List.take_append]
  | x :: l, i + 1, a, h => by
    simp at h
    rw [List.flatMap_cons, Nat.succ_mul, Nat.add_comm, ← List.drop_drop, List.drop_left' (hf x)]
    exact drop_flat f k hf l i a h
  | [], _, _, h => by simp at h
theorem flat_len {α β : Type} (f : α → List β) (k : Nat) (hf : ∀ a, (f a).length = k) : ∀ (l : List α), (l.flatMap f).length = l.length * k
  | [] => by simp
  | x :: l => by rw [List.flatMap_cons, List.length_append, hf, flat_len f k hf l, List.length_cons, Nat.succ_mul, Nat.add_comm]
instance ty_2 : TyI Tryz.prog 2 false 1 := ⟨by kernel_rfl⟩
instance ty_4 : TyI Tryz.prog 4 false 1 := ⟨by kernel_rfl⟩
instance ty_9 : TyI Tryz.prog 9 false 1 := ⟨by kernel_rfl⟩
instance ty_23 : TyI Tryz.prog 23 true 9 := ⟨by kernel_rfl⟩
instance ty_24 : TyI Tryz.prog 24 false 1 := ⟨by kernel_rfl⟩
instance ty_32 : TyI Tryz.prog 32 true 9 := ⟨by kernel_rfl⟩
instance ty_33 : TyI Tryz.prog 33 true 3 := ⟨by kernel_rfl⟩
instance ty_35 : TyI Tryz.prog 35 true 16 := ⟨by kernel_rfl⟩
instance ty_67 : TyI Tryz.prog 67 false 1 := ⟨by kernel_rfl⟩
instance ty_71 : TyI Tryz.prog 71 true 6 := ⟨by kernel_rfl⟩
instance ty_115 : TyI Tryz.prog 115 true 4 := ⟨by kernel_rfl⟩
instance ty_153 : TyI Tryz.prog 153 true 2 := ⟨by kernel_rfl⟩
instance ty_182 : TyI Tryz.prog 182 true 15 := ⟨by kernel_rfl⟩
instance ty_194 : TyI Tryz.prog 194 true 2 := ⟨by kernel_rfl⟩
instance fld_23_0 : FldI Tryz.prog 23 0 0 2 false 1 := ⟨by kernel_rfl⟩
instance fld_23_1 : FldI Tryz.prog 23 1 1 2 false 1 := ⟨by kernel_rfl⟩
instance fld_23_2 : FldI Tryz.prog 23 2 2 4 false 1 := ⟨by kernel_rfl⟩
instance fld_23_3 : FldI Tryz.prog 23 3 3 4 false 1 := ⟨by kernel_rfl⟩
instance fld_23_4 : FldI Tryz.prog 23 4 4 4 false 1 := ⟨by kernel_rfl⟩
instance fld_23_5 : FldI Tryz.prog 23 5 5 4 false 1 := ⟨by kernel_rfl⟩
instance fld_23_6 : FldI Tryz.prog 23 6 6 4 false 1 := ⟨by kernel_rfl⟩
instance fld_23_7 : FldI Tryz.prog 23 7 7 2 false 1 := ⟨by kernel_rfl⟩
instance fld_23_8 : FldI Tryz.prog 23 8 8 2 false 1 := ⟨by kernel_rfl⟩
instance fld_32_0 : FldI Tryz.prog 32 0 0 2 false 1 := ⟨by kernel_rfl⟩
instance fld_32_1 : FldI Tryz.prog 32 1 1 2 false 1 := ⟨by kernel_rfl⟩
instance fld_32_2 : FldI Tryz.prog 32 2 2 4 false 1 := ⟨by kernel_rfl⟩
instance fld_32_3 : FldI Tryz.prog 32 3 3 4 false 1 := ⟨by kernel_rfl⟩
instance fld_32_4 : FldI Tryz.prog 32 4 4 4 false 1 := ⟨by kernel_rfl⟩
instance fld_32_5 : FldI Tryz.prog 32 5 5 4 false 1 := ⟨by kernel_rfl⟩
instance fld_32_6 : FldI Tryz.prog 32 6 6 4 false 1 := ⟨by kernel_rfl⟩
instance fld_32_7 : FldI Tryz.prog 32 7 7 2 false 1 := ⟨by kernel_rfl⟩
instance fld_32_8 : FldI Tryz.prog 32 8 8 2 false 1 := ⟨by kernel_rfl⟩
instance fld_33_0 : FldI Tryz.prog 33 0 0 24 false 1 := ⟨by kernel_rfl⟩
instance fld_33_1 : FldI Tryz.prog 33 1 1 24 false 1 := ⟨by kernel_rfl⟩
instance fld_33_2 : FldI Tryz.prog 33 2 2 2 false 1 := ⟨by kernel_rfl⟩
instance fld_35_0 : FldI Tryz.prog 35 0 0 32 true 9 := ⟨by kernel_rfl⟩
instance fld_35_1 : FldI Tryz.prog 35 1 9 33 true 3 := ⟨by kernel_rfl⟩
instance fld_35_2 : FldI Tryz.prog 35 2 12 2 false 1 := ⟨by kernel_rfl⟩
instance fld_35_3 : FldI Tryz.prog 35 3 13 2 false 1 := ⟨by kernel_rfl⟩
instance fld_35_4 : FldI Tryz.prog 35 4 14 2 false 1 := ⟨by kernel_rfl⟩
instance fld_35_5 : FldI Tryz.prog 35 5 15 2 false 1 := ⟨by kernel_rfl⟩
instance fld_71_0 : FldI Tryz.prog 71 0 0 2 false 1 := ⟨by kernel_rfl⟩
instance fld_71_1 : FldI Tryz.prog 71 1 1 2 false 1 := ⟨by kernel_rfl⟩
instance fld_71_2 : FldI Tryz.prog 71 2 2 4 false 1 := ⟨by kernel_rfl⟩
instance fld_71_3 : FldI Tryz.prog 71 3 3 33 true 3 := ⟨by kernel_rfl⟩
instance fld_115_0 : FldI Tryz.prog 115 0 0 24 false 1 := ⟨by kernel_rfl⟩
instance fld_115_1 : FldI Tryz.prog 115 1 1 24 false 1 := ⟨by kernel_rfl⟩
instance fld_115_2 : FldI Tryz.prog 115 2 2 2 false 1 := ⟨by kernel_rfl⟩
instance fld_115_3 : FldI Tryz.prog 115 3 3 2 false 1 := ⟨by kernel_rfl⟩
instance fld_153_0 : FldI Tryz.prog 153 0 0 2 false 1 := ⟨by kernel_rfl⟩
instance fld_153_1 : FldI Tryz.prog 153 1 1 2 false 1 := ⟨by kernel_rfl⟩
instance fld_182_0 : FldI Tryz.prog 182 0 0 32 true 9 := ⟨by kernel_rfl⟩
instance fld_182_1 : FldI Tryz.prog 182 1 9 2 false 1 := ⟨by kernel_rfl⟩
instance fld_182_2 : FldI Tryz.prog 182 2 10 115 true 4 := ⟨by kernel_rfl⟩
instance fld_182_3 : FldI Tryz.prog 182 3 14 24 false 1 := ⟨by kernel_rfl⟩
instance fld_194_0 : FldI Tryz.prog 194 0 0 67 false 1 := ⟨by kernel_rfl⟩
instance fld_194_1 : FldI Tryz.prog 194 1 1 2 false 1 := ⟨by kernel_rfl⟩
instance eI_24 : ElI Tryz.prog 24 2 1 8 [.int .i64 0] := ⟨by kernel_rfl⟩
theorem el_24 : elOf Tryz.prog 24 = some (2, 1, 8, [.int .i64 0]) := ElI.h
instance eI_65 : ElI Tryz.prog 65 71 6 80 [.int .i64 0, .int .i64 0, .bool false, .slice none 0 0, .slice none 0 0, .int .i64 0] := ⟨by kernel_rfl⟩
theorem el_65 : elOf Tryz.prog 65 = some (71, 6, 80, [.int .i64 0, .int .i64 0, .bool false, .slice none 0 0, .slice none 0 0, .int .i64 0]) := ElI.h
instance eI_87 : ElI Tryz.prog 87 9 1 16 [.string ByteArray.empty] := ⟨by kernel_rfl⟩
theorem el_87 : elOf Tryz.prog 87 = some (9, 1, 16, [.string ByteArray.empty]) := ElI.h
instance eI_113 : ElI Tryz.prog 113 5 1 1 [.int .u8 0] := ⟨by kernel_rfl⟩
theorem el_113 : elOf Tryz.prog 113 = some (5, 1, 1, [.int .u8 0]) := ElI.h
instance eI_149 : ElI Tryz.prog 149 153 2 16 [.int .i64 0, .int .i64 0] := ⟨by kernel_rfl⟩
theorem el_149 : elOf Tryz.prog 149 = some (153, 2, 16, [.int .i64 0, .int .i64 0]) := ElI.h
instance zero_32 : ZeroI Tryz.prog 32 [.int .i64 0, .int .i64 0, .bool false, .bool false, .bool false, .bool false, .bool false, .int .i64 0, .int .i64 0] := ⟨by kernel_rfl⟩
instance zero_33 : ZeroI Tryz.prog 33 [.slice none 0 0, .slice none 0 0, .int .i64 0] := ⟨by kernel_rfl⟩
instance zero_35 : ZeroI Tryz.prog 35 [.int .i64 0, .int .i64 0, .bool false, .bool false, .bool false, .bool false, .bool false, .int .i64 0, .int .i64 0, .slice none 0 0, .slice none 0 0, .int .i64 0, .int .i64 0, .int .i64 0, .int .i64 0, .int .i64 0] := ⟨by kernel_rfl⟩
instance zero_71 : ZeroI Tryz.prog 71 [.int .i64 0, .int .i64 0, .bool false, .slice none 0 0, .slice none 0 0, .int .i64 0] := ⟨by kernel_rfl⟩
instance zero_115 : ZeroI Tryz.prog 115 [.slice none 0 0, .slice none 0 0, .int .i64 0, .int .i64 0] := ⟨by kernel_rfl⟩
instance zero_153 : ZeroI Tryz.prog 153 [.int .i64 0, .int .i64 0] := ⟨by kernel_rfl⟩
instance zero_182 : ZeroI Tryz.prog 182 [.int .i64 0, .int .i64 0, .bool false, .bool false, .bool false, .bool false, .bool false, .int .i64 0, .int .i64 0, .int .i64 0, .slice none 0 0, .slice none 0 0, .int .i64 0, .int .i64 0, .slice none 0 0] := ⟨by kernel_rfl⟩
instance zero_194 : ZeroI Tryz.prog 194 [.pointer none, .int .i64 0] := ⟨by kernel_rfl⟩
instance flds_33 : FldsI Tryz.prog 33 [(0, 1), (1, 1), (2, 1)] := ⟨by kernel_rfl⟩
instance flds_35 : FldsI Tryz.prog 35 [(0, 9), (9, 3), (12, 1), (13, 1), (14, 1), (15, 1)] := ⟨by kernel_rfl⟩
instance flds_71 : FldsI Tryz.prog 71 [(0, 1), (1, 1), (2, 1), (3, 3)] := ⟨by kernel_rfl⟩
instance flds_115 : FldsI Tryz.prog 115 [(0, 1), (1, 1), (2, 1), (3, 1)] := ⟨by kernel_rfl⟩
instance flds_153 : FldsI Tryz.prog 153 [(0, 1), (1, 1)] := ⟨by kernel_rfl⟩
instance flds_182 : FldsI Tryz.prog 182 [(0, 9), (9, 1), (10, 4), (14, 1)] := ⟨by kernel_rfl⟩
instance flds_194 : FldsI Tryz.prog 194 [(0, 1), (1, 1)] := ⟨by kernel_rfl⟩
instance fn_14 : FnI Tryz.prog 14 := ⟨by kernel_rfl⟩
instance fn_24 : FnI Tryz.prog 24 := ⟨by kernel_rfl⟩
instance fn_25 : FnI Tryz.prog 25 := ⟨by kernel_rfl⟩
instance fn_26 : FnI Tryz.prog 26 := ⟨by kernel_rfl⟩
instance fn_27 : FnI Tryz.prog 27 := ⟨by kernel_rfl⟩
instance fn_28 : FnI Tryz.prog 28 := ⟨by kernel_rfl⟩
instance fn_37 : FnI Tryz.prog 37 := ⟨by kernel_rfl⟩
instance fn_38 : FnI Tryz.prog 38 := ⟨by kernel_rfl⟩
instance fn_39 : FnI Tryz.prog 39 := ⟨by kernel_rfl⟩
instance fn_42 : FnI Tryz.prog 42 := ⟨by kernel_rfl⟩
instance fn_43 : FnI Tryz.prog 43 := ⟨by kernel_rfl⟩
instance fn_45 : FnI Tryz.prog 45 := ⟨by kernel_rfl⟩
instance fn_46 : FnI Tryz.prog 46 := ⟨by kernel_rfl⟩
instance fn_48 : FnI Tryz.prog 48 := ⟨by kernel_rfl⟩
instance fn_59 : FnI Tryz.prog 59 := ⟨by kernel_rfl⟩
instance fn_63 : FnI Tryz.prog 63 := ⟨by kernel_rfl⟩
instance fn_64 : FnI Tryz.prog 64 := ⟨by kernel_rfl⟩
instance fn_65 : FnI Tryz.prog 65 := ⟨by kernel_rfl⟩
instance fn_66 : FnI Tryz.prog 66 := ⟨by kernel_rfl⟩
instance fn_67 : FnI Tryz.prog 67 := ⟨by kernel_rfl⟩
instance fn_68 : FnI Tryz.prog 68 := ⟨by kernel_rfl⟩
instance fn_69 : FnI Tryz.prog 69 := ⟨by kernel_rfl⟩
instance fn_70 : FnI Tryz.prog 70 := ⟨by kernel_rfl⟩
instance fn_71 : FnI Tryz.prog 71 := ⟨by kernel_rfl⟩
instance fn_72 : FnI Tryz.prog 72 := ⟨by kernel_rfl⟩
instance fn_75 : FnI Tryz.prog 75 := ⟨by kernel_rfl⟩
instance fn_76 : FnI Tryz.prog 76 := ⟨by kernel_rfl⟩
instance fn_78 : FnI Tryz.prog 78 := ⟨by kernel_rfl⟩
instance fn_79 : FnI Tryz.prog 79 := ⟨by kernel_rfl⟩
instance fn_80 : FnI Tryz.prog 80 := ⟨by kernel_rfl⟩
instance fn_81 : FnI Tryz.prog 81 := ⟨by kernel_rfl⟩
instance fn_82 : FnI Tryz.prog 82 := ⟨by kernel_rfl⟩
instance fn_84 : FnI Tryz.prog 84 := ⟨by kernel_rfl⟩
instance fn_85 : FnI Tryz.prog 85 := ⟨by kernel_rfl⟩
instance fn_88 : FnI Tryz.prog 88 := ⟨by kernel_rfl⟩
instance fn_89 : FnI Tryz.prog 89 := ⟨by kernel_rfl⟩
instance fn_90 : FnI Tryz.prog 90 := ⟨by kernel_rfl⟩
instance fn_91 : FnI Tryz.prog 91 := ⟨by kernel_rfl⟩
instance fn_99 : FnI Tryz.prog 99 := ⟨by kernel_rfl⟩
instance fn_107 : FnI Tryz.prog 107 := ⟨by kernel_rfl⟩
instance fn_108 : FnI Tryz.prog 108 := ⟨by kernel_rfl⟩
instance fn_113 : FnI Tryz.prog 113 := ⟨by kernel_rfl⟩
instance fn_114 : FnI Tryz.prog 114 := ⟨by kernel_rfl⟩
instance fn_115 : FnI Tryz.prog 115 := ⟨by kernel_rfl⟩
instance fn_116 : FnI Tryz.prog 116 := ⟨by kernel_rfl⟩
instance fn_117 : FnI Tryz.prog 117 := ⟨by kernel_rfl⟩
instance fn_118 : FnI Tryz.prog 118 := ⟨by kernel_rfl⟩
instance fn_119 : FnI Tryz.prog 119 := ⟨by kernel_rfl⟩
instance fn_120 : FnI Tryz.prog 120 := ⟨by kernel_rfl⟩
instance fn_121 : FnI Tryz.prog 121 := ⟨by kernel_rfl⟩
instance fn_122 : FnI Tryz.prog 122 := ⟨by kernel_rfl⟩
instance fn_123 : FnI Tryz.prog 123 := ⟨by kernel_rfl⟩
instance fn_129 : FnI Tryz.prog 129 := ⟨by kernel_rfl⟩
instance fn_130 : FnI Tryz.prog 130 := ⟨by kernel_rfl⟩
instance fn_131 : FnI Tryz.prog 131 := ⟨by kernel_rfl⟩
instance fn_132 : FnI Tryz.prog 132 := ⟨by kernel_rfl⟩
instance fn_133 : FnI Tryz.prog 133 := ⟨by kernel_rfl⟩
instance fn_134 : FnI Tryz.prog 134 := ⟨by kernel_rfl⟩
instance fn_135 : FnI Tryz.prog 135 := ⟨by kernel_rfl⟩
instance fn_137 : FnI Tryz.prog 137 := ⟨by kernel_rfl⟩
instance fn_138 : FnI Tryz.prog 138 := ⟨by kernel_rfl⟩
instance fn_139 : FnI Tryz.prog 139 := ⟨by kernel_rfl⟩
instance fn_140 : FnI Tryz.prog 140 := ⟨by kernel_rfl⟩
instance fn_141 : FnI Tryz.prog 141 := ⟨by kernel_rfl⟩
instance fn_143 : FnI Tryz.prog 143 := ⟨by kernel_rfl⟩
instance fn_144 : FnI Tryz.prog 144 := ⟨by kernel_rfl⟩
instance fn_145 : FnI Tryz.prog 145 := ⟨by kernel_rfl⟩
instance fn_146 : FnI Tryz.prog 146 := ⟨by kernel_rfl⟩
instance fn_151 : FnI Tryz.prog 151 := ⟨by kernel_rfl⟩
instance fn_156 : FnI Tryz.prog 156 := ⟨by kernel_rfl⟩
instance fn_157 : FnI Tryz.prog 157 := ⟨by kernel_rfl⟩
instance fn_158 : FnI Tryz.prog 158 := ⟨by kernel_rfl⟩
instance fn_159 : FnI Tryz.prog 159 := ⟨by kernel_rfl⟩
instance fn_160 : FnI Tryz.prog 160 := ⟨by kernel_rfl⟩
instance fn_161 : FnI Tryz.prog 161 := ⟨by kernel_rfl⟩
instance fn_169 : FnI Tryz.prog 169 := ⟨by kernel_rfl⟩
instance fn_170 : FnI Tryz.prog 170 := ⟨by kernel_rfl⟩
instance fn_175 : FnI Tryz.prog 175 := ⟨by kernel_rfl⟩
instance fn_176 : FnI Tryz.prog 176 := ⟨by kernel_rfl⟩
instance fn_177 : FnI Tryz.prog 177 := ⟨by kernel_rfl⟩
instance fn_178 : FnI Tryz.prog 178 := ⟨by kernel_rfl⟩
instance fn_179 : FnI Tryz.prog 179 := ⟨by kernel_rfl⟩
instance fn_180 : FnI Tryz.prog 180 := ⟨by kernel_rfl⟩
instance fn_181 : FnI Tryz.prog 181 := ⟨by kernel_rfl⟩
instance fn_183 : FnI Tryz.prog 183 := ⟨by kernel_rfl⟩
instance fn_184 : FnI Tryz.prog 184 := ⟨by kernel_rfl⟩
instance fn_185 : FnI Tryz.prog 185 := ⟨by kernel_rfl⟩
instance fn_186 : FnI Tryz.prog 186 := ⟨by kernel_rfl⟩
instance fn_191 : FnI Tryz.prog 191 := ⟨by kernel_rfl⟩
instance fn_197 : FnI Tryz.prog 197 := ⟨by kernel_rfl⟩
instance fn_198 : FnI Tryz.prog 198 := ⟨by kernel_rfl⟩
instance fn_199 : FnI Tryz.prog 199 := ⟨by kernel_rfl⟩
instance fn_200 : FnI Tryz.prog 200 := ⟨by kernel_rfl⟩
instance fn_201 : FnI Tryz.prog 201 := ⟨by kernel_rfl⟩
instance fn_202 : FnI Tryz.prog 202 := ⟨by kernel_rfl⟩
instance fn_208 : FnI Tryz.prog 208 := ⟨by kernel_rfl⟩
instance fn_211 : FnI Tryz.prog 211 := ⟨by kernel_rfl⟩
instance uI_4 : UndI Tryz.prog 4 (.bool) := ⟨@Tryz.underlying4⟩
theorem und_4 : Tryz.prog.underlying 4 = some (.bool) := UndI.h
instance uI_9 : UndI Tryz.prog 9 (.string) := ⟨@Tryz.underlying9⟩
theorem und_9 : Tryz.prog.underlying 9 = some (.string) := UndI.h
instance uI_10 : UndI Tryz.prog 10 (.string) := ⟨@Tryz.underlying10⟩
instance uI_11 : UndI Tryz.prog 11 (.string) := ⟨@Tryz.underlying11⟩
instance uI_24 : UndI Tryz.prog 24 (.slice 2) := ⟨@Tryz.underlying24⟩
theorem und_24 : Tryz.prog.underlying 24 = some (.slice 2) := UndI.h
instance uI_65 : UndI Tryz.prog 65 (.slice 71) := ⟨@Tryz.underlying65⟩
theorem und_65 : Tryz.prog.underlying 65 = some (.slice 71) := UndI.h
instance uI_87 : UndI Tryz.prog 87 (.slice 9) := ⟨@Tryz.underlying87⟩
theorem und_87 : Tryz.prog.underlying 87 = some (.slice 9) := UndI.h
instance uI_95 : UndI Tryz.prog 95 (.slice 33) := ⟨@Tryz.underlying95⟩
instance uI_113 : UndI Tryz.prog 113 (.slice 5) := ⟨@Tryz.underlying113⟩
theorem und_113 : Tryz.prog.underlying 113 = some (.slice 5) := UndI.h
instance uI_149 : UndI Tryz.prog 149 (.slice 153) := ⟨@Tryz.underlying149⟩
theorem und_149 : Tryz.prog.underlying 149 = some (.slice 153) := UndI.h
instance uI_223 : UndI Tryz.prog 223 (.slice 244) := ⟨@Tryz.underlying223⟩
instance uI_242 : UndI Tryz.prog 242 (.slice 4) := ⟨@Tryz.underlying242⟩
instance mixI : MixI Tryz.prog := ⟨by kernel_rfl⟩
@[reducible] def cRules (x : M.Rul) : List Ty := [Ty.int x.pits, Ty.int x.seeds, Ty.bool x.stores, Ty.bool x.skip, Ty.bool x.relay, Ty.bool x.feed, Ty.bool x.again, Ty.int x.capture, Ty.int x.slam]
def lRules (xs : List M.Rul) : List Ty := xs.flatMap cRules
theorem lRules_length (xs : List M.Rul) : (lRules xs).length = xs.length * 9 := flat_len cRules 9 (fun _ => rfl) xs
instance : LenL lRules 9 := ⟨lRules_length⟩
@[reducible] def cPosition (x : M.Pos) : List Ty := [Ty.ints 2 x.pits, Ty.ints 2 x.stores, Ty.int x.player]
def lPosition (xs : List M.Pos) : List Ty := xs.flatMap cPosition
theorem lPosition_length (xs : List M.Pos) : (lPosition xs).length = xs.length * 3 := flat_len cPosition 3 (fun _ => rfl) xs
instance : LenL lPosition 3 := ⟨lPosition_length⟩
@[reducible] def cSown (x : M.Sw) : List Ty := [Ty.ints 2 x.pits, Ty.ints 2 x.stores, Ty.int x.last, Ty.int x.laps]
def lSown (xs : List M.Sw) : List Ty := xs.flatMap cSown
theorem lSown_length (xs : List M.Sw) : (lSown xs).length = xs.length * 4 := flat_len cSown 4 (fun _ => rfl) xs
instance : LenL lSown 4 := ⟨lSown_length⟩
@[reducible] def csowing (x : M.Sow) : List Ty := [Ty.int x.rules.pits, Ty.int x.rules.seeds, Ty.bool x.rules.stores, Ty.bool x.rules.skip, Ty.bool x.rules.relay, Ty.bool x.rules.feed, Ty.bool x.rules.again, Ty.int x.rules.capture, Ty.int x.rules.slam, Ty.int x.player, Ty.ints 2 x.sown.pits, Ty.ints 2 x.sown.stores, Ty.int x.sown.last, Ty.int x.sown.laps, Ty.ints 2 x.path]
theorem ref_sowing {u : World} {v : Value} {x : M.Sow} (h : (Ty.ref (csowing x)).ok u v) : ∃ b o A10 c10 A11 c11 A14 c14, v = .pointer (some ⟨b, o, none⟩) ∧ RowAt u b o [.int .i64 x.rules.pits, .int .i64 x.rules.seeds, .bool x.rules.stores, .bool x.rules.skip, .bool x.rules.relay, .bool x.rules.feed, .bool x.rules.again, .int .i64 x.rules.capture, .int .i64 x.rules.slam, .int .i64 x.player, .slice A10 x.sown.pits.length c10, .slice A11 x.sown.stores.length c11, .int .i64 x.sown.last, .int .i64 x.sown.laps, .slice A14 x.path.length c14] ∧ (Ty.ints 2 x.sown.pits).ok u (.slice A10 x.sown.pits.length c10) ∧ (Ty.ints 2 x.sown.stores).ok u (.slice A11 x.sown.stores.length c11) ∧ (Ty.ints 2 x.path).ok u (.slice A14 x.path.length c14) ∧ x.sown.pits.length ≤ c10 ∧ c10 ≤ 9223372036854775807 ∧ x.sown.stores.length ≤ c11 ∧ c11 ≤ 9223372036854775807 ∧ x.path.length ≤ c14 ∧ c14 ≤ 9223372036854775807 := by
  obtain ⟨b, o, vs, rfl, h, hr⟩ := h
  obtain ⟨x0, r, rfl, h0, h⟩ := cellsOk_cons h
  obtain ⟨x1, r, rfl, h1, h⟩ := cellsOk_cons h
  obtain ⟨x2, r, rfl, h2, h⟩ := cellsOk_cons h
  obtain ⟨x3, r, rfl, h3, h⟩ := cellsOk_cons h
  obtain ⟨x4, r, rfl, h4, h⟩ := cellsOk_cons h
  obtain ⟨x5, r, rfl, h5, h⟩ := cellsOk_cons h
  obtain ⟨x6, r, rfl, h6, h⟩ := cellsOk_cons h
  obtain ⟨x7, r, rfl, h7, h⟩ := cellsOk_cons h
  obtain ⟨x8, r, rfl, h8, h⟩ := cellsOk_cons h
  obtain ⟨x9, r, rfl, h9, h⟩ := cellsOk_cons h
  obtain ⟨x10, r, rfl, h10, h⟩ := cellsOk_cons h
  obtain ⟨x11, r, rfl, h11, h⟩ := cellsOk_cons h
  obtain ⟨x12, r, rfl, h12, h⟩ := cellsOk_cons h
  obtain ⟨x13, r, rfl, h13, h⟩ := cellsOk_cons h
  obtain ⟨x14, r, rfl, h14, h⟩ := cellsOk_cons h
  obtain rfl := cellsOk_nil h
  obtain rfl : x0 = .int .i64 x.rules.pits := h0
  obtain rfl : x1 = .int .i64 x.rules.seeds := h1
  obtain rfl : x2 = .bool x.rules.stores := h2
  obtain rfl : x3 = .bool x.rules.skip := h3
  obtain rfl : x4 = .bool x.rules.relay := h4
  obtain rfl : x5 = .bool x.rules.feed := h5
  obtain rfl : x6 = .bool x.rules.again := h6
  obtain rfl : x7 = .int .i64 x.rules.capture := h7
  obtain rfl : x8 = .int .i64 x.rules.slam := h8
  obtain rfl : x9 = .int .i64 x.player := h9
  obtain ⟨A10, c10, rfl, b10, d10⟩ := sl_form h10
  obtain ⟨A11, c11, rfl, b11, d11⟩ := sl_form h11
  obtain rfl : x12 = .int .i64 x.sown.last := h12
  obtain rfl : x13 = .int .i64 x.sown.laps := h13
  obtain ⟨A14, c14, rfl, b14, d14⟩ := sl_form h14
  exact ⟨b, o, A10, c10, A11, c11, A14, c14, rfl, hr, h10, h11, h14, b10, d10, b11, d11, b14, d14⟩
def lsowing (xs : List M.Sow) : List Ty := xs.flatMap csowing
theorem lsowing_length (xs : List M.Sow) : (lsowing xs).length = xs.length * 15 := flat_len csowing 15 (fun _ => rfl) xs
instance : LenL lsowing 15 := ⟨lsowing_length⟩
@[reducible] def cResult (x : M.Res) : List Ty := [Ty.int x.move, Ty.int x.gain, Ty.bool x.again, Ty.ints 2 x.next.pits, Ty.ints 2 x.next.stores, Ty.int x.next.player]
def lResult (xs : List M.Res) : List Ty := xs.flatMap cResult
theorem lResult_length (xs : List M.Res) : (lResult xs).length = xs.length * 6 := flat_len cResult 6 (fun _ => rfl) xs
instance : LenL lResult 6 := ⟨lResult_length⟩
theorem elem_Result {u : World} {e c i : Nat} {A : Option Addr} {xs : List M.Res} {x : M.Res} (h : (Ty.sl e 6 xs.length (lResult xs)).ok u (.slice A xs.length c)) (hi : xs[i]? = some x) : ∃ b o A3 c3 A4 c4, elemA 6 (.slice A xs.length c) i = some ⟨b, o, none⟩ ∧ RowAt u b o [.int .i64 x.move, .int .i64 x.gain, .bool x.again, .slice A3 x.next.pits.length c3, .slice A4 x.next.stores.length c4, .int .i64 x.next.player] ∧ (Ty.ints 2 x.next.pits).ok u (.slice A3 x.next.pits.length c3) ∧ (Ty.ints 2 x.next.stores).ok u (.slice A4 x.next.stores.length c4) ∧ x.next.pits.length ≤ c3 ∧ c3 ≤ 9223372036854775807 ∧ x.next.stores.length ≤ c4 ∧ c4 ≤ 9223372036854775807 := by
  obtain ⟨b, o, vs, he, h, hr⟩ := sl_elem h (List.getElem?_eq_some_iff.1 hi).1 rfl
  have e := drop_flat cResult 6 (fun _ => rfl) xs i x hi
  unfold lResult at h
  rw [e] at h
  obtain ⟨x0, r, rfl, h0, h⟩ := cellsOk_cons h
  obtain ⟨x1, r, rfl, h1, h⟩ := cellsOk_cons h
  obtain ⟨x2, r, rfl, h2, h⟩ := cellsOk_cons h
  obtain ⟨x3, r, rfl, h3, h⟩ := cellsOk_cons h
  obtain ⟨x4, r, rfl, h4, h⟩ := cellsOk_cons h
  obtain ⟨x5, r, rfl, h5, h⟩ := cellsOk_cons h
  obtain rfl := cellsOk_nil h
  obtain rfl : x0 = .int .i64 x.move := h0
  obtain rfl : x1 = .int .i64 x.gain := h1
  obtain rfl : x2 = .bool x.again := h2
  obtain ⟨A3, c3, rfl, b3, d3⟩ := sl_form h3
  obtain ⟨A4, c4, rfl, b4, d4⟩ := sl_form h4
  obtain rfl : x5 = .int .i64 x.next.player := h5
  exact ⟨b, o, A3, c3, A4, c4, he, hr, h3, h4, b3, d3, b4, d4⟩
theorem lResult_snoc (xs : List M.Res) (x : M.Res) : lResult xs ++ cResult x = lResult (xs ++ [x]) := by simp [lResult]
theorem pack_Result {w : World} {x : M.Res} {v1 v2 : Value} {f1 f2 : List Nat} (h1 : (Ty.ints 2 x.next.pits).own w v1 f1) (h2 : (Ty.ints 2 x.next.stores).own w v2 f2) : cellsOwn w (cResult x) [.int .i64 x.move, .int .i64 x.gain, .bool x.again, v1, v2, .int .i64 x.next.player] (f1 ++ f2) :=
  ⟨[], f1 ++ f2, rfl, ⟨rfl, rfl⟩, ⟨[], f1 ++ f2, rfl, ⟨rfl, rfl⟩, ⟨[], f1 ++ f2, rfl, ⟨rfl, rfl⟩, ⟨f1, f2, rfl, h1, ⟨f2, [], (List.append_nil _).symm, h2, ⟨[], [], rfl, ⟨rfl, rfl⟩, rfl⟩⟩⟩⟩⟩⟩
@[reducible] def cResultL (x : M.Res) : List Ty := [Ty.int x.move, Ty.int x.gain, Ty.bool x.again, Ty.any, Ty.any, Ty.any]
def lResultL (xs : List M.Res) : List Ty := xs.flatMap cResultL
theorem lResultL_length (xs : List M.Res) : (lResultL xs).length = xs.length * 6 := flat_len cResultL 6 (fun _ => rfl) xs
instance : LenL lResultL 6 := ⟨lResultL_length⟩
@[reducible] def cOption (x : M.Opt) : List Ty := [Ty.int x.move, Ty.int x.value]
def lOption (xs : List M.Opt) : List Ty := xs.flatMap cOption
theorem lOption_length (xs : List M.Opt) : (lOption xs).length = xs.length * 2 := flat_len cOption 2 (fun _ => rfl) xs
instance : LenL lOption 2 := ⟨lOption_length⟩
theorem elem_Option {u : World} {e c i : Nat} {A : Option Addr} {xs : List M.Opt} {x : M.Opt} (h : (Ty.sl e 2 xs.length (lOption xs)).ok u (.slice A xs.length c)) (hi : xs[i]? = some x) : ∃ b o, elemA 2 (.slice A xs.length c) i = some ⟨b, o, none⟩ ∧ RowAt u b o [.int .i64 x.move, .int .i64 x.value] := by
  obtain ⟨b, o, vs, he, h, hr⟩ := sl_elem h (List.getElem?_eq_some_iff.1 hi).1 rfl
  have e := drop_flat cOption 2 (fun _ => rfl) xs i x hi
  unfold lOption at h
  rw [e] at h
  obtain ⟨x0, r, rfl, h0, h⟩ := cellsOk_cons h
  obtain ⟨x1, r, rfl, h1, h⟩ := cellsOk_cons h
  obtain rfl := cellsOk_nil h
  obtain rfl : x0 = .int .i64 x.move := h0
  obtain rfl : x1 = .int .i64 x.value := h1
  exact ⟨b, o, he, hr⟩
theorem lOption_snoc (xs : List M.Opt) (x : M.Opt) : lOption xs ++ cOption x = lOption (xs ++ [x]) := by simp [lOption]
@[reducible] def cPuzzle (x : M.Puz) : List Ty := [Ty.int x.rules.pits, Ty.int x.rules.seeds, Ty.bool x.rules.stores, Ty.bool x.rules.skip, Ty.bool x.rules.relay, Ty.bool x.rules.feed, Ty.bool x.rules.again, Ty.int x.rules.capture, Ty.int x.rules.slam, Ty.ints 2 x.position.pits, Ty.ints 2 x.position.stores, Ty.int x.position.player, Ty.int x.depth, Ty.int x.move, Ty.int x.value, Ty.int x.margin]
def lPuzzle (xs : List M.Puz) : List Ty := xs.flatMap cPuzzle
theorem lPuzzle_length (xs : List M.Puz) : (lPuzzle xs).length = xs.length * 16 := flat_len cPuzzle 16 (fun _ => rfl) xs
instance : LenL lPuzzle 16 := ⟨lPuzzle_length⟩
@[reducible] def cPositionL (x : M.Pos) : List Ty := [Ty.rx 2 x.pits, Ty.ints 2 x.stores, Ty.int x.player]
def lPositionL (xs : List M.Pos) : List Ty := xs.flatMap cPositionL
theorem lPositionL_length (xs : List M.Pos) : (lPositionL xs).length = xs.length * 3 := flat_len cPositionL 3 (fun _ => rfl) xs
instance : LenL lPositionL 3 := ⟨lPositionL_length⟩
@[reducible] def cGameL (x : M.Gam) : List Ty := [Ty.int x.rules.pits, Ty.int x.rules.seeds, Ty.bool x.rules.stores, Ty.bool x.rules.skip, Ty.bool x.rules.relay, Ty.bool x.rules.feed, Ty.bool x.rules.again, Ty.int x.rules.capture, Ty.int x.rules.slam, Ty.ints 2 x.start.pits, Ty.ints 2 x.start.stores, Ty.int x.start.player, Ty.ro 2 x.moves, Ty.ints 2 x.now.pits, Ty.ints 2 x.now.stores, Ty.int x.now.player, Ty.int x.resigned]
def lGameL (xs : List M.Gam) : List Ty := xs.flatMap cGameL
theorem lGameL_length (xs : List M.Gam) : (lGameL xs).length = xs.length * 17 := flat_len cGameL 17 (fun _ => rfl) xs
instance : LenL lGameL 17 := ⟨lGameL_length⟩
@[reducible] def cGame (x : M.Gam) : List Ty := [Ty.int x.rules.pits, Ty.int x.rules.seeds, Ty.bool x.rules.stores, Ty.bool x.rules.skip, Ty.bool x.rules.relay, Ty.bool x.rules.feed, Ty.bool x.rules.again, Ty.int x.rules.capture, Ty.int x.rules.slam, Ty.ints 2 x.start.pits, Ty.ints 2 x.start.stores, Ty.int x.start.player, Ty.ints 2 x.moves, Ty.ints 2 x.now.pits, Ty.ints 2 x.now.stores, Ty.int x.now.player, Ty.int x.resigned]
def lGame (xs : List M.Gam) : List Ty := xs.flatMap cGame
theorem lGame_length (xs : List M.Gam) : (lGame xs).length = xs.length * 17 := flat_len cGame 17 (fun _ => rfl) xs
instance : LenL lGame 17 := ⟨lGame_length⟩
end Go.Proofs.YtdhmdaoijnnfjaaGreatDoor

namespace Go.Proofs.YtdhmdaoijnnfjaaGreatDoor
open Go.RowKit Go.ChangeShapes Go.WideShapes Go.ChangeAt
section
variable {H : Type} {enc : TypeId × Value → H} {w : World} {spare : Nat → Bool} {held : Bool} {fuel : Nat} {x : DataW H × List MemPlace} {cs : List Value}
theorem rd_cat {Ts Us : List Ty} (a s : Nat) (h1 : cellsOk w Ts ((cs.drop a).take s)) (h2 : cellsOk w Us (cs.drop (a + s))) : cellsOk w (Ts ++ Us) (cs.drop a) := by
  have := h1.append h2
  rwa [← List.drop_drop, List.take_append_drop] at this
theorem rd_end {n : Nat} (h : cs.length = n) : cellsOk w [] (cs.drop n) := by rw [List.drop_eq_nil_of_le (by omega)]; trivial
theorem rd_int {P : Program} {t : TypeId} (ht : P.underlying t = some (.int .i64)) (h : DataW.trod enc P w 0 spare held fuel t cs = some x) : ∃ n : Int, cellsOk w [Ty.int n] cs := by
  obtain ⟨n, rfl, _, _⟩ := DataW.trod_int ht h
  exact ⟨n, rfl, trivial⟩
theorem rd_bool {P : Program} {t : TypeId} (ht : P.underlying t = some .bool) (h : DataW.trod enc P w 0 spare held fuel t cs = some x) : ∃ b : Bool, cellsOk w [Ty.bool b] cs := by
  obtain ⟨b, rfl, _⟩ := DataW.trod_bool ht h
  exact ⟨b, rfl, trivial⟩
end
end Go.Proofs.YtdhmdaoijnnfjaaGreatDoor

namespace Go.Proofs.YtdhmdaoijnnfjaaGreatDoor
open Go.RowKit Go.ChangeShapes Go.WideShapes Go.ChangeAt
section
variable {H : Type} {enc : TypeId × Value → H} {w : World} {spare : Nat → Bool} {held : Bool} {fuel : Nat} {x : DataW H × List MemPlace} {cs : List Value}
end
end Go.Proofs.YtdhmdaoijnnfjaaGreatDoor

namespace Go.Proofs.YtdhmdaoijnnfjaaGreatDoor.M
def joinN (l : List Int) : Nat → List UInt8
  | 0 => []
  | k + 1 => (if 0 < k then joinN l k ++ [44] else joinN l k) ++ dec (nth l k)
def joinT (l : List Int) : List UInt8 := joinN l l.length
theorem joinN_len (l : List Int) : ∀ k : Nat, (joinN l k).length ≤ 22 * k
  | 0 => by simp [joinN]
  | k + 1 => by
    have h1 := joinN_len l k; have h2 := dec_len (nth l k)
    rw [joinN]; split <;> simp only [List.length_append, List.length_cons, List.length_nil] <;> omega
theorem joinN_p {l : List Int} {o : List UInt8} {k : Nat} (h : o = joinN l k) (hk : 0 < k) : (o ++ [44]) ++ dec (nth l k) = joinN l (k + 1) := by rw [joinN, if_pos hk, h]
theorem joinN_z {l : List Int} {o : List UInt8} {k : Nat} (h : o = joinN l k) (hk : ¬ 0 < k) : o ++ dec (nth l k) = joinN l (k + 1) := by rw [joinN, if_neg hk, h]
theorem joinN_big {l : List Int} {o : List UInt8} {k : Nat} (h : o = joinN l k) (hk : k ≤ 4194304) : o.length ≤ 92274688 := by rw [h]; have := joinN_len l k; omega
theorem joinN_e {l : List Int} {o : List UInt8} {k : Nat} (h : o = joinN l k) (hk : l.length ≤ k) (hk2 : k ≤ l.length) : o = joinT l := by rw [h, joinT, Nat.le_antisymm hk hk2]
theorem joinT_len (l : List Int) : (joinT l).length ≤ 22 * l.length := joinN_len l _
def Rng (l : List Int) : Prop := ∀ a ∈ l, -9223372036854775808 ≤ a ∧ a ≤ 9223372036854775807
theorem Rng.nth {l : List Int} (h : Rng l) (k : Nat) : -9223372036854775808 ≤ nth l k ∧ M.nth l k ≤ 9223372036854775807 := by
  by_cases hk : k < l.length
  · exact h _ (nth_mem hk)
  · simp [M.nth, List.getD, List.getElem?_eq_none (Nat.le_of_not_lt hk)]
theorem Rng.ok {l : List Int} (h : allOk l = true) : Rng l := fun a ha => by
  unfold allOk at h; rw [List.all_eq_true] at h
  have := betw_iff.1 (h _ ha); omega
theorem Rng.take {l : List Int} (h : Rng l) (k : Nat) : Rng (l.take k) := fun a ha => h a (List.mem_of_mem_take ha)
theorem Rng.drop {l : List Int} (h : Rng l) (k : Nat) : Rng (l.drop k) := fun a ha => h a (List.mem_of_mem_drop ha)
def posText (p : Pos) : List UInt8 := dec p.player ++ [32] ++ joinT (p.pits.take (p.pits.length / 2)) ++ [47] ++ joinT (p.pits.drop (p.pits.length / 2)) ++ [32] ++ joinT p.stores
def posTextR (r : Rul) (p : Pos) : List UInt8 := if okP r p = true then posText p else []
theorem posTextR_yes {r : Rul} {p : Pos} (h : okP r p = true) : posTextR r p = posText p := by unfold posTextR; rw [if_pos h]
theorem posTextR_no {r : Rul} {p : Pos} (h : okP r p = false) : posTextR r p = [] := by unfold posTextR; rw [if_neg (by simp [h])]
theorem half {r : Rul} {p : Pos} (h : okP r p = true) : r.pits.toNat = p.pits.length / 2 := by have := okP_bd h; omega
end Go.Proofs.YtdhmdaoijnnfjaaGreatDoor.M

namespace Go.Proofs.YtdhmdaoijnnfjaaGreatDoor.M
def fNames : List (List UInt8) := [[115, 116, 111, 114, 101, 115], [115, 107, 105, 112], [114, 101, 108, 97, 121], [102, 101, 101, 100], [97, 103, 97, 105, 110]]
def capName (k : Int) : List UInt8 := if k = 0 then [110, 111, 110, 101] else if k = 1 then [116, 119, 111, 45, 116, 104, 114, 101, 101] else if k = 2 then [99, 114, 111, 115, 115] else if k = 3 then [101, 118, 101, 110] else []
def slamName (k : Int) : List UInt8 := if k = 0 then [116, 97, 107, 101] else if k = 1 then [102, 111, 114, 98, 105, 100] else if k = 2 then [110, 111, 116, 104, 105, 110, 103] else []
theorem capName_len (k : Int) : (capName k).length ≤ 9 := by unfold capName; (repeat' split) <;> simp
theorem slamName_len (k : Int) : (slamName k).length ≤ 7 := by unfold slamName; (repeat' split) <;> simp
def flagB (r : Rul) (y : List UInt8) : Bool := if y = [115, 116, 111, 114, 101, 115] then r.stores else if y = [115, 107, 105, 112] then r.skip else if y = [114, 101, 108, 97, 121] then r.relay else if y = [102, 101, 101, 100] then r.feed else if y = [97, 103, 97, 105, 110] then r.again else false
def rulesN (r : Rul) : Nat → List UInt8
  | 0 => [112, 105, 116, 115, 61] ++ dec r.pits ++ [32, 115, 101, 101, 100, 115, 61] ++ dec r.seeds ++ [32, 99, 97, 112, 116, 117, 114, 101, 61] ++ capName r.capture ++ [32, 115, 108, 97, 109, 61] ++ slamName r.slam
  | k + 1 => if flagB r (fNames.getD k []) = true then rulesN r k ++ ([32] ++ fNames.getD k []) else rulesN r k
def rulesT (r : Rul) : List UInt8 := rulesN r 5
theorem rulesN_len (r : Rul) : ∀ k : Nat, k ≤ 5 → (rulesN r k).length ≤ 120 + 7 * k
  | 0, _ => by
    have a := dec_len r.pits; have c := dec_len r.seeds; have d := capName_len r.capture; have e := slamName_len r.slam
    rw [rulesN]; simp only [List.length_append, List.length_cons, List.length_nil]; omega
  | k + 1, hk => by
    have h1 := rulesN_len r k (by omega)
    have h2 : (fNames.getD k []).length ≤ 6 := by
      have : k = 0 ∨ k = 1 ∨ k = 2 ∨ k = 3 ∨ k = 4 := by omega
      rcases this with rfl | rfl | rfl | rfl | rfl <;> decide
    rw [rulesN]; split <;> first | omega | (simp only [List.length_append, List.length_cons, List.length_nil]; omega)
theorem rulesT_len (r : Rul) : (rulesT r).length ≤ 155 := rulesN_len r 5 (Nat.le_refl _)
def recLine (n m g : Int) : List UInt8 := dec n ++ [46, 32] ++ dec m ++ [43] ++ dec g
theorem recLine_len (n m g : Int) : (recLine n m g).length ≤ 66 := by
  have a := dec_len n; have c := dec_len m; have d := dec_len g
  unfold recLine; simp only [List.length_append, List.length_cons, List.length_nil]; omega
end Go.Proofs.YtdhmdaoijnnfjaaGreatDoor.M

namespace Go.Proofs.YtdhmdaoijnnfjaaGreatDoor
open Go.RowKit
instance {n : Int} : LenB (M.capName n) 9 := ⟨M.capName_len n⟩
instance {n : Int} : LenB (M.slamName n) 7 := ⟨M.slamName_len n⟩
instance {r : M.Rul} : LenB (M.rulesT r) 155 := ⟨M.rulesT_len r⟩
instance {a b c : Int} : LenB (M.recLine a b c) 66 := ⟨M.recLine_len a b c⟩
def ownsRowS (w : World) (e : TypeId) (v : Value) (n : Nat) (xs : List Value) : Prop :=
  xs.length = n ∧ ∃ g cap cur fz, v = .slice (some ⟨g, 0, none⟩) n cap ∧ w.heap[g]? = some (.cells cur e fz) ∧ (fz.2 = 0 ∨ cap ≤ fz.1) ∧ n ≤ cap ∧ cap ≤ maxLen ∧ cur.size = cap ∧ cur.toList.take n = xs
theorem ownsRowS.cell {w : World} {e : TypeId} {g n cap : Nat} {xs : List Value} (h : ownsRowS w e (.slice (some ⟨g, 0, none⟩) n cap) n xs) (j : Nat) (u : Value) (hu : xs[j]? = some u) : w.cell? ⟨g, j, none⟩ = some u := by
  obtain ⟨_, g', cap', cur, fz, hv, hg, _, _, _, _, ht⟩ := h
  injection hv with hv _ _
  injection hv with hv
  injection hv with hv _ _
  subst hv
  rw [← ht, List.getElem?_take] at hu
  split at hu
  · simp [World.cell?, hg]; simpa using hu
  · cases hu
section
variable {P : Program}
variable {n lo : Nat} {B : List Nat} {l : Fr} {os : List Own} {u : World} {dst : Option Tmp} {ty : TypeId} {pos : String} {af : Array Edge} {gd : Option (Nat × Bool)}
end
end Go.Proofs.YtdhmdaoijnnfjaaGreatDoor

namespace Go.Proofs.YtdhmdaoijnnfjaaGreatDoor.M
def noteT (pl mv gn : Int) (ag : Bool) : List UInt8 :=
  if ag = true then (if 0 < gn then ([112, 108, 97, 121, 101, 114, 32] ++ dec pl ++ [32, 112, 108, 97, 121, 115, 32] ++ dec mv) ++ ([44, 32, 103, 97, 105, 110, 115, 32] ++ dec gn) else ([112, 108, 97, 121, 101, 114, 32] ++ dec pl ++ [32, 112, 108, 97, 121, 115, 32] ++ dec mv)) ++ [44, 32, 109, 111, 118, 101, 115, 32, 97, 103, 97, 105, 110]
  else (if 0 < gn then ([112, 108, 97, 121, 101, 114, 32] ++ dec pl ++ [32, 112, 108, 97, 121, 115, 32] ++ dec mv) ++ ([44, 32, 103, 97, 105, 110, 115, 32] ++ dec gn) else ([112, 108, 97, 121, 101, 114, 32] ++ dec pl ++ [32, 112, 108, 97, 121, 115, 32] ++ dec mv))
def notes (l : List (Pos × Res)) : List (List UInt8) := l.map fun x => noteT x.1.player x.2.move x.2.gain x.2.again
@[simp] theorem notes_length (l : List (Pos × Res)) : (notes l).length = l.length := by simp [notes]
end Go.Proofs.YtdhmdaoijnnfjaaGreatDoor.M

namespace Go.Proofs.YtdhmdaoijnnfjaaGreatDoor.M
def markT (k : Int) : List UInt8 := if k ≤ 0 then [109, 48] else [109] ++ dec k
def upT (k : Int) (n : Nat) : List (List UInt8) := (List.range n).map fun (i : Nat) => markT (k + (i : Int))
@[simp] theorem upT_length (k : Int) (n : Nat) : (upT k n).length = n := by simp [upT]
end Go.Proofs.YtdhmdaoijnnfjaaGreatDoor.M

namespace Go.Proofs.YtdhmdaoijnnfjaaGreatDoor.M
def bat (a : List UInt8) (i : Nat) : Int := ((a.getD i 0).toNat : Int)
theorem bat_bd (a : List UInt8) (i : Nat) : 0 ≤ bat a i ∧ bat a i ≤ 255 := by
  have := (a.getD i 0).toNat_lt
  unfold bat; omega
def split (by_ : UInt8) : List UInt8 → List (List UInt8)
  | [] => [[]]
  | b :: l => if b = by_ then [] :: split by_ l else match split by_ l with
    | [] => [[b]]
    | w :: ws => (b :: w) :: ws
theorem split_ne (by_ : UInt8) (l : List UInt8) : split by_ l ≠ [] := by
  cases l with
  | nil => simp [split]
  | cons b l =>
    rw [split]; split
    · simp
    · split <;> simp
theorem split_app (by_ : UInt8) : ∀ (p q : List UInt8), by_ ∉ p → split by_ (p ++ by_ :: q) = p :: split by_ q
  | [], q, _ => by rw [List.nil_append, split, if_pos rfl]
  | b :: p, q, h => by
    have hb : b ≠ by_ := fun e => h (by simp [e])
    have := split_app by_ p q (fun hm => h (by simp [hm]))
    rw [List.cons_append, split, if_neg hb, this]
theorem split_last (by_ : UInt8) : ∀ (p : List UInt8), by_ ∉ p → split by_ p = [p]
  | [], _ => rfl
  | b :: p, h => by
    have hb : b ≠ by_ := fun e => h (by simp [e])
    have := split_last by_ p (fun hm => h (by simp [hm]))
    rw [split, if_neg hb, this]
structure SplI (b : UInt8) (s : List UInt8) (f k : Nat) (out : List (List UInt8)) : Prop where
  h : out ++ split b (s.drop f) = split b s
  n : b ∉ (s.drop f).take (k - f)
  l : f ≤ k
theorem SplI.zero (b : UInt8) (s : List UInt8) : SplI b s 0 0 [] := ⟨rfl, by simp, Nat.le_refl _⟩
theorem bat_get {s : List UInt8} {k : Nat} (h : k < s.length) : bat s k = (s[k].toNat : Int) := by simp [bat, List.getD, h]
theorem drop_cut {s : List UInt8} {f k : Nat} (h : k < s.length) (hl : f ≤ k) : s.drop f = (s.drop f).take (k - f) ++ s[k] :: s.drop (k + 1) := by
  have e : (s.drop f).drop (k - f) = s[k] :: s.drop (k + 1) := by rw [List.drop_drop, show f + (k - f) = k by omega]; exact List.drop_eq_getElem_cons h
  rw [← e, List.take_append_drop]
theorem u8_of {b : Int} {x : UInt8} (h : (x.toNat : Int) = b) : x = u8 b := by
  subst h; unfold u8; simp
theorem SplI.hit {b : Int} {s : List UInt8} {f k : Nat} {out : List (List UInt8)} (h : SplI (u8 b) s f k out) (hk : k < s.length) (hb : bat s k = b) : SplI (u8 b) s (k + 1) (k + 1) (out ++ [(s.drop f).take (k - f)]) := by
  have hx : s[k] = u8 b := u8_of (by rw [← hb, bat_get hk])
  refine ⟨?_, by simp, Nat.le_refl _⟩
  have e := drop_cut hk h.l
  rw [hx] at e
  rw [← h.h, e, split_app _ _ _ h.n, ← e]
  simp
theorem SplI.miss {b : Int} {s : List UInt8} {f k : Nat} {out : List (List UInt8)} (h : SplI (u8 b) s f k out) (hk : k < s.length) (h0 : 0 ≤ b) (h1 : b ≤ 255) (hb : bat s k ≠ b) : SplI (u8 b) s f (k + 1) out := by
  refine ⟨h.h, fun hm => ?_, by have := h.l; omega⟩
  have hl := h.l
  have e : (s.drop f).take (k + 1 - f) = (s.drop f).take (k - f) ++ [s[k]] := by
    rw [show k + 1 - f = (k - f) + 1 by omega, List.take_add_one, List.getElem?_drop, show f + (k - f) = k by omega, List.getElem?_eq_getElem hk]; rfl
  rw [e] at hm
  rcases List.mem_append.1 hm with hm | hm
  · exact h.n hm
  · simp only [List.mem_singleton] at hm
    apply hb
    rw [bat_get hk, ← hm]; exact u8_val h0 h1
theorem SplI.done {b : UInt8} {s : List UInt8} {f k : Nat} {out : List (List UInt8)} (h : SplI b s f k out) (hk : s.length ≤ k) : out ++ [s.drop f] = split b s := by
  have hn := h.n
  rw [List.take_of_length_le (by rw [List.length_drop]; omega)] at hn
  rw [← h.h, split_last _ _ hn]
theorem SplI.len {b : UInt8} {s : List UInt8} {f k : Nat} {out : List (List UInt8)} (h : SplI b s f k out) : out.length ≤ (split b s).length := by rw [← h.h, List.length_append]; omega
theorem split_len (b : UInt8) : ∀ s : List UInt8, (split b s).length ≤ s.length + 1
  | [] => by simp [split]
  | x :: s => by
    have := split_len b s
    rw [split]; split
    · simp; omega
    · split
      · simp
      · rename_i h; rw [h] at this; simp at this ⊢; omega
end Go.Proofs.YtdhmdaoijnnfjaaGreatDoor.M

namespace Go.Proofs.YtdhmdaoijnnfjaaGreatDoor
open Go.RowKit
section
variable {P : Program} {n lo : Nat} {B : List Nat} {l : Fr} {os : List Own} {u : World} {dst : Option Tmp} {ty : TypeId} {pos : String} {af : Array Edge} {gd : Option (Nat × Bool)} {x y z : Operand} {t : TypeId} {a : List UInt8} {i j : Nat} {k k' : IntKind}
theorem ints_one (l : List Int) : (ints_ l).all (·.oneCell') = true := by
  induction l with
  | nil => rfl
  | cons x l ih => simp only [ints_, List.map_cons, List.all_cons] at ih ⊢; exact ih
theorem sB_size (a : List UInt8) : (sB a).size = a.length := by simp [sB, ByteArray.size]
theorem sB_extract (a : List UInt8) (i j : Nat) : (sB a).extract i j = sB ((a.drop i).take (j - i)) := ByteArray.extract_mk a i j
theorem p_takeS (hu : P.underlying t = some .string) (hx : opd l x = some (.string (sB a))) (hy : opd l y = some (.int k i)) (h : i ≤ a.length) : OpP P n l ⟨dst, .slice t x none (some y) none, ty, pos, af, gd⟩ (.string (sB (a.take i))) := fun c w ha => by
  have := run_slice_string_h (P := P) w t (sB a) hu k i (by omega) (by rw [sB_size]; omega)
  rw [sB_extract] at this
  simp only [Int.toNat_natCast, Nat.sub_zero, List.drop_zero] at this
  simp only [execOp, Option.map_none, Option.map_some, ha.eval hx, ha.eval hy, Sem.run_bind, run_sliceAt_string _ t _ _ _ _ hu, this, Result.andThen_ok, Sem.run_pure]
theorem p_dropS (hu : P.underlying t = some .string) (hx : opd l x = some (.string (sB a))) (hy : opd l y = some (.int k i)) (h : i ≤ a.length) : OpP P n l ⟨dst, .slice t x (some y) none none, ty, pos, af, gd⟩ (.string (sB (a.drop i))) := fun c w ha => by
  have := run_slice_string_l (P := P) w t (sB a) hu k i (by omega) (by rw [sB_size]; omega)
  rw [sB_extract, sB_size] at this
  simp only [Int.toNat_natCast] at this
  rw [List.take_of_length_le (by simp)] at this
  simp only [execOp, Option.map_none, Option.map_some, ha.eval hx, ha.eval hy, Sem.run_bind, run_sliceAt_string _ t _ _ _ _ hu, this, Result.andThen_ok, Sem.run_pure]
theorem p_midS (hu : P.underlying t = some .string) (hx : opd l x = some (.string (sB a))) (hy : opd l y = some (.int k i)) (hz : opd l z = some (.int k' j)) (h1 : i ≤ j) (h2 : j ≤ a.length) : OpP P n l ⟨dst, .slice t x (some y) (some z) none, ty, pos, af, gd⟩ (.string (sB ((a.drop i).take (j - i)))) := fun c w ha => by
  have := run_slice_string (P := P) w t (sB a) k k' i j hu (by omega) (by omega) (by rw [sB_size]; omega)
  rw [sB_extract] at this
  simp only [Int.toNat_natCast] at this
  simp only [execOp, Option.map_none, Option.map_some, ha.eval hx, ha.eval hy, ha.eval hz, Sem.run_bind, run_sliceAt_string _ t _ _ _ _ hu, this, Result.andThen_ok, Sem.run_pure]
theorem p_byteS (hu : P.underlying t = some .string) (hx : opd l x = some (.string (sB a))) (hy : opd l y = some (.int k i)) (h : i < a.length) : OpP P n l ⟨dst, .index t x y, ty, pos, af, gd⟩ (.int .u8 (M.bat a i)) := fun c w ha => by
  have := run_index_string (P := P) w t (sB a) k i hu
  rw [dif_pos ⟨by omega, by rw [sB_size]; omega⟩] at this
  have e : ((sB a)[(i : Int).toNat]'(by rw [sB_size]; omega)) = a[i] := rfl
  have e2 : M.bat a i = (a[i].toNat : Int) := by simp [M.bat, List.getD, h]
  simp only [execOp, ha.eval hx, ha.eval hy, Sem.run_bind, this, Result.andThen_ok, Sem.run_pure]
  rw [e2]; rfl
end
instance {a : List UInt8} {k i : Nat} [h : LenB a k] : LenB (a.take i) k := ⟨by rw [List.length_take]; have := h.h; omega⟩
instance {a : List UInt8} {k i : Nat} [h : LenB a k] : LenB (a.drop i) k := ⟨by rw [List.length_drop]; have := h.h; omega⟩
end Go.Proofs.YtdhmdaoijnnfjaaGreatDoor

namespace Go.Proofs.YtdhmdaoijnnfjaaGreatDoor.M
def isDig (c : Int) : Bool := decide (48 ≤ c) && decide (c ≤ 57)
def numT (s : List UInt8) : List UInt8 := if s ≠ [] ∧ bat s 0 = 45 then s.drop 1 else s
theorem numT_y {s : List UInt8} (h0 : s ≠ []) (h : bat s 0 = 45) : numT s = s.drop 1 := by unfold numT; rw [if_pos ⟨h0, h⟩]
theorem numT_n {s : List UInt8} (h : ¬ (s ≠ [] ∧ bat s 0 = 45)) : numT s = s := by unfold numT; rw [if_neg h]
def numN (t : List UInt8) : Nat → Int
  | 0 => 0
  | k + 1 => 10 * numN t k + (bat t k - 48)
def Digs (t : List UInt8) (k : Nat) : Prop := ∀ i : Nat, i < k → isDig (bat t i) = true
theorem Digs.zero (t : List UInt8) : Digs t 0 := fun i h => absurd h (by omega)
theorem Digs.step {t : List UInt8} {k : Nat} (h : Digs t k) (hk : isDig (bat t k) = true) : Digs t (k + 1) := fun i hi => by
  by_cases e : i = k
  · rw [e]; exact hk
  · exact h i (by omega)
theorem dig_bd {c : Int} (h : isDig c = true) : 48 ≤ c ∧ c ≤ 57 := by unfold isDig at h; simp at h; exact h
theorem numN_bd {t : List UInt8} : ∀ k : Nat, Digs t k → 0 ≤ numN t k ∧ numN t k + 1 ≤ (10 : Int) ^ k
  | 0, _ => by simp [numN]
  | k + 1, h => by
    obtain ⟨a, b⟩ := numN_bd k (fun i hi => h i (by omega))
    obtain ⟨c, d⟩ := dig_bd (h k (by omega))
    rw [numN, Int.pow_succ]
    constructor <;> omega
theorem pow10_le {k m : Nat} (h : k ≤ m) : (10 : Int) ^ k ≤ (10 : Int) ^ m := by
  have : (10 : Nat) ^ k ≤ 10 ^ m := Nat.pow_le_pow_right (by decide) h
  have e : ∀ n : Nat, ((10 ^ n : Nat) : Int) = (10 : Int) ^ n := fun n => by simp
  rw [← e, ← e]; omega
theorem numN_17 {t : List UInt8} {k : Nat} (h : Digs t k) (hk : k ≤ 17) : 0 ≤ numN t k ∧ numN t k ≤ 99999999999999999 := by
  have a := numN_bd k h; have b := pow10_le hk
  have e : (10 : Int) ^ 17 = 100000000000000000 := by decide
  omega
theorem numN_18 {t : List UInt8} {k : Nat} (h : Digs t k) (hk : k ≤ 18) : 0 ≤ numN t k ∧ numN t k ≤ 999999999999999999 := by
  have a := numN_bd k h; have b := pow10_le hk
  have e : (10 : Int) ^ 18 = 1000000000000000000 := by decide
  omega
def numS (s : List UInt8) : Int := if (numT s).length < s.length then -numN (numT s) (numT s).length else numN (numT s) (numT s).length
def digs (t : List UInt8) : Bool := (List.range t.length).all fun i => isDig (bat t i)
theorem digs_yes {t : List UInt8} {k : Nat} (h : Digs t k) (hk : t.length ≤ k) : digs t = true := by
  unfold digs; rw [List.all_eq_true]; intro i hi
  exact h i (by have := List.mem_range.1 hi; omega)
theorem digs_no {t : List UInt8} {k : Nat} (hk : k < t.length) (h : isDig (bat t k) = false) : digs t = false := by
  cases e : digs t
  · rfl
  · unfold digs at e; rw [List.all_eq_true] at e
    have := e k (List.mem_range.2 hk); rw [h] at this; exact absurd this (by simp)
def num (s : List UInt8) : Int × Bool :=
  if (numT s).length < 1 ∨ 18 < (numT s).length then (0, false) else if digs (numT s) = false then (0, false) else if dec (numS s) = s then (numS s, true) else (0, false)
theorem num_len {s : List UInt8} (h : (numT s).length < 1 ∨ 18 < (numT s).length) : num s = (0, false) := by unfold num; rw [if_pos h]
theorem num_dig {s : List UInt8} (h : digs (numT s) = false) : num s = (0, false) := by unfold num; rw [if_pos h]; split <;> rfl
theorem num_no {s : List UInt8} (h : dec (numS s) ≠ s) : num s = (0, false) := by unfold num; rw [if_neg h]; split <;> (try split) <;> rfl
theorem num_yes {s : List UInt8} (h1 : ¬ ((numT s).length < 1 ∨ 18 < (numT s).length)) (h2 : digs (numT s) = true) (h : dec (numS s) = s) : num s = (numS s, true) := by
  unfold num; rw [if_neg h1, if_neg (by simp [h2]), if_pos h]
theorem numS_neg {s : List UInt8} (h : (numT s).length < s.length) : numS s = -numN (numT s) (numT s).length := by unfold numS; rw [if_pos h]
theorem numS_pos {s : List UInt8} (h : ¬ (numT s).length < s.length) : numS s = numN (numT s) (numT s).length := by unfold numS; rw [if_neg h]
end Go.Proofs.YtdhmdaoijnnfjaaGreatDoor.M

namespace Go.Proofs.YtdhmdaoijnnfjaaGreatDoor.M
def hit (s sep : List UInt8) (k : Nat) : Bool := decide (k + sep.length ≤ s.length) && decide ((s.drop k).take sep.length = sep)
def cutS (s sep : List UInt8) : List UInt8 × List UInt8 × Bool :=
  match (List.range (s.length + 1)).find? (hit s sep) with
  | some k => (s.take k, s.drop (k + sep.length), true)
  | none => (s, [], false)
theorem find_first {p : Nat → Bool} : ∀ {n k : Nat}, k < n → p k = true → (∀ i, i < k → p i = false) → (List.range n).find? p = some k := by
  intro n k hk hp hn
  rw [List.find?_range_eq_some]
  exact ⟨hp, by simpa using hk, fun j hj => by simpa using hn j hj⟩
theorem cutS_yes {s sep : List UInt8} {k : Nat} (hk : k + sep.length ≤ s.length) (h : (s.drop k).take sep.length = sep) (hn : ∀ i, i < k → (s.drop i).take sep.length ≠ sep) : cutS s sep = (s.take k, s.drop (k + sep.length), true) := by
  unfold cutS
  rw [find_first (k := k) (by omega) (by simp [hit, hk, h]) (fun i hi => by simp [hit, hn i hi])]
theorem cutS_no {s sep : List UInt8} {k : Nat} (hk : s.length < k + sep.length) (hn : ∀ i, i < k → (s.drop i).take sep.length ≠ sep) : cutS s sep = (s, [], false) := by
  unfold cutS
  have : (List.range (s.length + 1)).find? (hit s sep) = none := by
    rw [List.find?_eq_none]
    intro i hi
    by_cases h : i < k
    · simp [hit, hn i h]
    · simp [hit]; omega
  rw [this]
theorem miss_step {s sep : List UInt8} {k : Nat} (hn : ∀ i, i < k → (s.drop i).take sep.length ≠ sep) (h : (s.drop k).take sep.length ≠ sep) : ∀ i, i < k + 1 → (s.drop i).take sep.length ≠ sep := fun i hi => by
  by_cases e : i = k
  · rw [e]; exact h
  · exact hn i (by omega)
theorem cutS_len (s sep : List UInt8) : (cutS s sep).1.length ≤ s.length ∧ (cutS s sep).2.1.length ≤ s.length := by
  unfold cutS; split
  · simp only [List.length_take, List.length_drop]; omega
  · simp
theorem hit_one {s : List UInt8} {b : UInt8} {k : Nat} : hit s [b] k = true ↔ s[k]? = some b := by
  unfold hit
  simp only [List.length_cons, List.length_nil, Nat.zero_add, Bool.and_eq_true, decide_eq_true_eq]
  constructor
  · rintro ⟨h1, h2⟩
    have : k < s.length := by omega
    rw [List.drop_eq_getElem_cons this] at h2
    simp only [List.take_succ_cons, List.take_zero, List.cons.injEq, and_true] at h2
    rw [List.getElem?_eq_getElem this, h2]
  · intro h
    obtain ⟨hk, h⟩ := List.getElem?_eq_some_iff.1 h
    refine ⟨by omega, ?_⟩
    rw [List.drop_eq_getElem_cons hk]
    simp [h]
theorem cutS_one (b : UInt8) (s : List UInt8) : ((cutS s [b]).2.2 = true ∧ split b s = (cutS s [b]).1 :: split b (cutS s [b]).2.1 ∧ (cutS s [b]).2.1.length < s.length) ∨ ((cutS s [b]).2.2 = false ∧ split b s = [(cutS s [b]).1]) := by
  unfold cutS
  cases hf : (List.range (s.length + 1)).find? (hit s [b]) with
  | some k =>
    left
    rw [List.find?_range_eq_some] at hf
    obtain ⟨h1, _, h3⟩ := hf
    rw [hit_one] at h1
    obtain ⟨hk, h⟩ := List.getElem?_eq_some_iff.1 h1
    refine ⟨rfl, ?_, by simp; omega⟩
    have e : s = s.take k ++ b :: s.drop (k + 1) := by
      rw [← h, ← List.drop_eq_getElem_cons hk, List.take_append_drop]
    have hm : b ∉ s.take k := fun hm => by
      obtain ⟨i, hi, he⟩ := List.mem_iff_getElem.1 hm
      have hik : i < k := by rw [List.length_take] at hi; omega
      have := h3 i hik
      rw [Bool.not_eq_true', ← Bool.not_eq_true, hit_one] at this
      apply this
      rw [List.getElem_take] at he
      rw [List.getElem?_eq_getElem (by omega), he]
    show split b s = s.take k :: split b (s.drop (k + 1))
    conv => lhs; rw [e]
    exact split_app b _ _ hm
  | none =>
    right
    rw [List.find?_eq_none] at hf
    refine ⟨rfl, split_last b s fun hm => ?_⟩
    obtain ⟨i, hi, he⟩ := List.mem_iff_getElem.1 hm
    have := hf i (by simp; omega)
    apply this
    rw [hit_one, List.getElem?_eq_getElem hi, he]
theorem parts_more {b : UInt8} {s cur : List UInt8} {out : List (List UInt8)} (h : out ++ split b cur = split b s) (hc : (cutS cur [b]).2.2 = true) : (out ++ [(cutS cur [b]).1]) ++ split b (cutS cur [b]).2.1 = split b s ∧ (cutS cur [b]).2.1.length < cur.length := by
  rcases cutS_one b cur with ⟨_, h2, h3⟩ | ⟨h2, _⟩
  · rw [← h, h2]; simp; exact h3
  · rw [hc] at h2; simp at h2
theorem parts_last {b : UInt8} {s cur : List UInt8} {out : List (List UInt8)} (h : out ++ split b cur = split b s) (hc : (cutS cur [b]).2.2 = false) : out ++ [(cutS cur [b]).1] = split b s := by
  rcases cutS_one b cur with ⟨h2, _, _⟩ | ⟨_, h2⟩
  · rw [hc] at h2; simp at h2
  · rw [← h, h2]
theorem parts_len {b : UInt8} {s cur : List UInt8} {out : List (List UInt8)} (h : out ++ split b cur = split b s) : out.length ≤ s.length + 1 := by
  have := split_len b s; rw [← h, List.length_append] at this; omega
end Go.Proofs.YtdhmdaoijnnfjaaGreatDoor.M

namespace Go.Proofs.YtdhmdaoijnnfjaaGreatDoor.M
theorem split_mem (b : UInt8) : ∀ (s w : List UInt8), w ∈ split b s → w.length ≤ s.length
  | [], w, h => by simp [split] at h; simp [h]
  | x :: s, w, h => by
    rw [split] at h
    split at h
    · rcases List.mem_cons.1 h with rfl | h
      · simp
      · have := split_mem b s w h; simp; omega
    · split at h
      · simp at h; simp [h]
      · rename_i v vs e
        rcases List.mem_cons.1 h with rfl | h
        · have := split_mem b s v (by rw [e]; simp); simp; omega
        · have := split_mem b s w (by rw [e]; simp [h]); simp; omega
def numsOk (l : List (List UInt8)) : Bool := l.all fun w => (num w).2
def numsV (l : List (List UInt8)) : List Int := l.map fun w => (num w).1
def nums (s : List UInt8) : List Int × Bool := if numsOk (split 44 s) = true then (numsV (split 44 s), true) else ([], false)
theorem nums_yes {s : List UInt8} (h : numsOk (split 44 s) = true) : nums s = (numsV (split 44 s), true) := by unfold nums; rw [if_pos h]
theorem nums_no {s : List UInt8} (h : numsOk (split 44 s) = false) : nums s = ([], false) := by unfold nums; rw [if_neg (by simp [h])]
theorem nums_step {l : List (List UInt8)} {out : List Int} {k : Nat} {y : List UInt8} (h : out = numsV (l.take k)) (hy : l[k]? = some y) : out ++ [(num y).1] = numsV (l.take (k + 1)) := by
  rw [List.take_add_one, hy, h]; simp [numsV]
theorem numsOk_step {l : List (List UInt8)} {k : Nat} {y : List UInt8} (h : numsOk (l.take k) = true) (hy : l[k]? = some y) (hn : (num y).2 = true) : numsOk (l.take (k + 1)) = true := by
  rw [List.take_add_one, hy]; unfold numsOk at *; rw [List.all_append, h]; simp [hn]
theorem numsOk_no {l : List (List UInt8)} {k : Nat} {y : List UInt8} (hy : l[k]? = some y) (hn : (num y).2 = false) : numsOk l = false := by
  cases e : numsOk l
  · rfl
  · unfold numsOk at e; rw [List.all_eq_true] at e
    have := e y (List.mem_of_getElem? hy); rw [hn] at this; exact absurd this (by simp)
structure NumsI (s cur : List UInt8) (out : List Int) : Prop where
  ok : numsOk (split 44 cur) = numsOk (split 44 s)
  v : out ++ numsV (split 44 cur) = numsV (split 44 s)
theorem NumsI.zero (s : List UInt8) : NumsI s s [] := ⟨rfl, rfl⟩
theorem NumsI.bad {s cur : List UInt8} {out : List Int} (h : NumsI s cur out) (hn : (num (cutS cur [44]).1).2 = false) : numsOk (split 44 s) = false := by
  rw [← h.ok]
  rcases cutS_one 44 cur with ⟨_, h2, _⟩ | ⟨_, h2⟩ <;> (rw [h2]; simp [numsOk, hn])
theorem NumsI.more {s cur : List UInt8} {out : List Int} (h : NumsI s cur out) (hn : (num (cutS cur [44]).1).2 = true) (hc : (cutS cur [44]).2.2 = true) : NumsI s (cutS cur [44]).2.1 (out ++ [(num (cutS cur [44]).1).1]) ∧ (cutS cur [44]).2.1.length < cur.length := by
  rcases cutS_one 44 cur with ⟨_, h2, h3⟩ | ⟨h2, _⟩
  · refine ⟨⟨?_, ?_⟩, h3⟩
    · rw [← h.ok, h2]; simp [numsOk, hn]
    · rw [← h.v, h2]; simp [numsV]
  · rw [hc] at h2; simp at h2
theorem NumsI.last {s cur : List UInt8} {out : List Int} (h : NumsI s cur out) (hn : (num (cutS cur [44]).1).2 = true) (hc : (cutS cur [44]).2.2 = false) : nums s = (out ++ [(num (cutS cur [44]).1).1], true) := by
  rcases cutS_one 44 cur with ⟨h2, _, _⟩ | ⟨_, h2⟩
  · rw [hc] at h2; simp at h2
  · rw [nums_yes (by rw [← h.ok, h2]; simp [numsOk, hn]), ← h.v, h2]; simp [numsV]
theorem NumsI.len {s cur : List UInt8} {out : List Int} (h : NumsI s cur out) : out.length ≤ s.length + 1 := by
  have a := split_len 44 s
  have := congrArg List.length h.v
  rw [List.length_append] at this
  simp only [numsV, List.length_map] at this; omega
theorem nums_end {s : List UInt8} {out : List Int} {k : Nat} (h1 : numsOk ((split 44 s).take k) = true) (h : out = numsV ((split 44 s).take k)) (hk : (split 44 s).length ≤ k) : nums s = (out, true) := by
  rw [List.take_of_length_le hk] at h1 h
  rw [nums_yes h1, h]
theorem nums_len (s : List UInt8) : (nums s).1.length ≤ s.length + 1 := by
  have := split_len 44 s
  unfold nums; split
  · simpa [numsV] using this
  · simp
end Go.Proofs.YtdhmdaoijnnfjaaGreatDoor.M

namespace Go.Proofs.YtdhmdaoijnnfjaaGreatDoor.M
def decB (b : UInt8) : Prop := b = 45 ∨ (48 ≤ b.toNat ∧ b.toNat ≤ 57)
theorem decB_dig (d : Nat) (h : d < 10) : decB (UInt8.ofNat (48 + d)) := by
  right
  rw [UInt8.toNat_ofNat', Nat.mod_eq_of_lt (by omega)]
  omega
theorem decDigits_B : ∀ (u : Nat) (b : UInt8), b ∈ Lib.decDigits u → decB b := by
  intro u
  induction u using Nat.strongRecOn with
  | ind u ih =>
    intro b hb
    rw [Lib.decDigits] at hb
    by_cases hs : u < 10
    · rw [dif_pos hs] at hb
      simp only [List.mem_singleton] at hb
      rw [hb]; exact decB_dig u hs
    · rw [dif_neg hs] at hb
      rcases List.mem_append.1 hb with hb | hb
      · exact ih (u / 10) (by omega) b hb
      · simp only [List.mem_singleton] at hb
        rw [hb]; exact decB_dig _ (by omega)
theorem dec_B {n : Int} {b : UInt8} (h : b ∈ dec n) : decB b := by
  unfold dec at h
  split at h
  · unfold Lib.itoa at h
    split at h
    · rcases List.mem_cons.1 h with rfl | h
      · exact .inl rfl
      · exact decDigits_B _ _ h
    · exact decDigits_B _ _ h
  · simp at h
theorem decB_no {b c : UInt8} (h : decB b) (hc : c = 32 ∨ c = 44 ∨ c = 47) : b ≠ c := by
  rintro rfl
  rcases hc with rfl | rfl | rfl <;> (rcases h with h | ⟨h1, h2⟩ <;> first | exact absurd h (by decide) | exact absurd h1 (by decide))
theorem num_dec {s : List UInt8} (h : (num s).2 = true) : dec (num s).1 = s := by
  unfold num at *
  split at h
  · simp at h
  · split at h
    · simp at h
    · split at h
      · rename_i h1 h2 h3; rw [if_neg h1, if_neg h2, if_pos h3]; exact h3
      · simp at h
def joinW (b : UInt8) : List (List UInt8) → List UInt8
  | [] => []
  | [w] => w
  | w :: v :: ws => w ++ b :: joinW b (v :: ws)
theorem joinW_cons (b : UInt8) (w : List UInt8) {ws : List (List UInt8)} (h : ws ≠ []) : joinW b (w :: ws) = w ++ b :: joinW b ws := by
  cases ws with
  | nil => exact absurd rfl h
  | cons v ws => rfl
theorem joinW_split (b : UInt8) : ∀ s : List UInt8, joinW b (split b s) = s
  | [] => rfl
  | x :: s => by
    have ih := joinW_split b s
    rw [split]
    split
    · rename_i e
      rw [joinW_cons b _ (split_ne b s), ih, e]; rfl
    · split
      · rename_i e; exact absurd e (split_ne b s)
      · rename_i w ws e
        rw [e] at ih
        cases ws with
        | nil => show x :: w = x :: s; rw [show w = s from ih]
        | cons v ws =>
          show x :: (w ++ b :: joinW b (v :: ws)) = x :: s
          rw [show w ++ b :: joinW b (v :: ws) = s from ih]
theorem joinW_snoc (b : UInt8) (w : List UInt8) : ∀ {ws : List (List UInt8)}, ws ≠ [] → joinW b (ws ++ [w]) = joinW b ws ++ b :: w
  | [v], _ => rfl
  | v :: u :: ws, _ => by
    show v ++ b :: joinW b (u :: ws ++ [w]) = (v ++ b :: joinW b (u :: ws)) ++ b :: w
    rw [joinW_snoc b w (ws := u :: ws) (by simp)]; simp
theorem joinN_W (l : List Int) : ∀ k : Nat, k ≤ l.length → joinN l k = joinW 44 ((l.take k).map dec)
  | 0, _ => rfl
  | k + 1, h => by
    have ih := joinN_W l k (by omega)
    rw [take_nth (by omega), List.map_append, joinN]
    by_cases hk : 0 < k
    · rw [if_pos hk, ih, List.map_cons, List.map_nil, joinW_snoc]
      · simp
      · intro e
        have := congrArg List.length e
        rw [List.length_map, List.length_take, List.length_nil] at this; omega
    · have : k = 0 := by omega
      subst this
      rw [if_neg hk, ih]; rfl
theorem joinT_W (l : List Int) : joinT l = joinW 44 (l.map dec) := by
  unfold joinT; rw [joinN_W l _ (Nat.le_refl _), List.take_length]
theorem nums_ok {s : List UInt8} (h : (nums s).2 = true) : numsOk (split 44 s) = true := by
  cases e : numsOk (split 44 s)
  · rw [nums_no e] at h; simp at h
  · rfl
theorem nums_dec {s : List UInt8} (h : (nums s).2 = true) : joinT (nums s).1 = s := by
  have ho := nums_ok h
  rw [nums_yes ho, joinT_W]
  have : (numsV (split 44 s)).map dec = split 44 s := by
    unfold numsV numsOk at *
    rw [List.map_map]
    rw [List.all_eq_true] at ho
    conv => rhs; rw [← List.map_id (split 44 s)]
    exact List.map_congr_left fun w hw => num_dec (ho w hw)
  show joinW 44 ((numsV (split 44 s)).map dec) = s
  rw [this, joinW_split]
theorem joinW_mem {b : UInt8} : ∀ {ws : List (List UInt8)} {x : UInt8}, x ∈ joinW b ws → x = b ∨ ∃ w ∈ ws, x ∈ w
  | [], x, h => by simp [joinW] at h
  | [w], x, h => .inr ⟨w, by simp, h⟩
  | w :: v :: ws, x, h => by
    rcases List.mem_append.1 h with h | h
    · exact .inr ⟨w, by simp, h⟩
    · rcases List.mem_cons.1 h with rfl | h
      · exact .inl rfl
      · rcases joinW_mem (ws := v :: ws) h with h | ⟨u, h1, h2⟩
        · exact .inl h
        · exact .inr ⟨u, by simp [List.mem_cons.1 h1], h2⟩
theorem joinT_mem {l : List Int} {x : UInt8} (h : x ∈ joinT l) : x = 44 ∨ decB x := by
  rw [joinT_W] at h
  rcases joinW_mem h with h | ⟨w, h1, h2⟩
  · exact .inl h
  · obtain ⟨n, _, rfl⟩ := List.mem_map.1 h1
    exact .inr (dec_B h2)
theorem joinT_no {l : List Int} {c : UInt8} (hc : c = 32 ∨ c = 47) : c ∉ joinT l := fun h => by
  rcases joinT_mem h with h | h
  · subst h; rcases hc with h | h <;> exact absurd h (by decide)
  · exact decB_no h (by rcases hc with h | h <;> simp [h]) rfl
theorem dec_no {n : Int} {c : UInt8} (hc : c = 32 ∨ c = 44 ∨ c = 47) : c ∉ dec n := fun h => decB_no (dec_B h) hc rfl
end Go.Proofs.YtdhmdaoijnnfjaaGreatDoor.M

namespace Go.Proofs.YtdhmdaoijnnfjaaGreatDoor.M
theorem split_joinW (b : UInt8) : ∀ {ws : List (List UInt8)}, ws ≠ [] → (∀ w ∈ ws, b ∉ w) → split b (joinW b ws) = ws
  | [], h, _ => absurd rfl h
  | [w], _, h => split_last b w (h w (by simp))
  | w :: v :: ws, _, h => by
    show split b (w ++ b :: joinW b (v :: ws)) = _
    rw [split_app b w _ (h w (by simp)), split_joinW b (ws := v :: ws) (by simp) (fun u hu => h u (List.mem_cons_of_mem _ hu))]
theorem split_joinT {l : List Int} (h : l ≠ []) : split 44 (joinT l) = l.map dec := by
  rw [joinT_W]
  refine split_joinW 44 (by simpa using h) fun w hw => ?_
  obtain ⟨n, _, rfl⟩ := List.mem_map.1 hw
  exact dec_no (by simp)
theorem joinT_inj_len {a b : List Int} (ha : a ≠ []) (hb : b ≠ []) (h : joinT a = joinT b) : a.length = b.length := by
  have := congrArg (fun s => (split 44 s).length) h
  simp only [split_joinT ha, split_joinT hb, List.length_map] at this
  exact this
theorem nums_ne {s : List UInt8} (h : (nums s).2 = true) : (nums s).1 ≠ [] := by
  rw [nums_yes (nums_ok h)]
  intro e
  have := congrArg List.length e
  simp only [numsV, List.length_map, List.length_nil] at this
  exact split_ne 44 s (List.eq_nil_of_length_eq_zero this)
def w3 (s : List UInt8) (i : Nat) : List UInt8 := (split 32 s).getD i []
def x2 (s : List UInt8) (i : Nat) : List UInt8 := (split 47 (w3 s 1)).getD i []
def readP0 (s : List UInt8) : Pos × Bool :=
  if (split 32 s).length = 3 ∧ (split 47 (w3 s 1)).length = 2 ∧ (num (w3 s 0)).2 = true ∧ (nums (x2 s 0)).2 = true ∧ (nums (x2 s 1)).2 = true ∧ (nums (w3 s 2)).2 = true ∧ (nums (x2 s 0)).1.length = (nums (x2 s 1)).1.length
  then (⟨(nums (x2 s 0)).1 ++ (nums (x2 s 1)).1, (nums (w3 s 2)).1, (num (w3 s 0)).1⟩, true) else (Pos.zero, false)
def readP (r : Rul) (s : List UInt8) : Pos × Bool := if (readP0 s).2 = true ∧ okP r (readP0 s).1 = true then ((readP0 s).1, true) else (Pos.zero, false)
theorem readP_no {r : Rul} {s : List UInt8} (h : (readP0 s).2 = false) : readP r s = (Pos.zero, false) := by unfold readP; rw [if_neg (by simp [h])]
theorem readP0_no {s : List UInt8} (h : ¬ ((split 32 s).length = 3 ∧ (split 47 (w3 s 1)).length = 2 ∧ (num (w3 s 0)).2 = true ∧ (nums (x2 s 0)).2 = true ∧ (nums (x2 s 1)).2 = true ∧ (nums (w3 s 2)).2 = true ∧ (nums (x2 s 0)).1.length = (nums (x2 s 1)).1.length)) : readP0 s = (Pos.zero, false) := by
  unfold readP0; rw [if_neg h]
theorem split_two {b : UInt8} {s : List UInt8} (h : (cutS s [b]).2.2 = true) (hb : b ∉ (cutS s [b]).2.1) : split b s = [(cutS s [b]).1, (cutS s [b]).2.1] := by
  rcases cutS_one b s with ⟨_, h2, _⟩ | ⟨h2, _⟩
  · rw [h2, split_last b _ hb]
  · rw [h] at h2; simp at h2
def first5 (s : List UInt8) : Prop := (num (w3 s 0)).2 = true ∧ (cutS (w3 s 1) [47]).2.2 = true ∧ (nums (cutS (w3 s 1) [47]).1).2 = true ∧ (nums (cutS (w3 s 1) [47]).2.1).2 = true ∧ (nums (w3 s 2)).2 = true
theorem first_x {s : List UInt8} (h : first5 s) : split 47 (w3 s 1) = [(cutS (w3 s 1) [47]).1, (cutS (w3 s 1) [47]).2.1] := by
  obtain ⟨_, h2, _, h4, _⟩ := h
  refine split_two h2 ?_
  rw [← nums_dec h4]; exact joinT_no (by simp)
theorem first_no {s : List UInt8} (h : ¬ first5 s) : readP0 s = (Pos.zero, false) := readP0_no fun ⟨_, h2, h3, h4, h5, h6, _⟩ => by
  apply h
  rcases cutS_one 47 (w3 s 1) with ⟨c1, c2, _⟩ | ⟨_, c2⟩
  · rw [c2] at h2
    have hl : (split 47 (cutS (w3 s 1) [47]).2.1).length = 1 := by simpa using h2
    have hj := joinW_split 47 (cutS (w3 s 1) [47]).2.1
    obtain ⟨v, hv⟩ := List.length_eq_one_iff.1 hl
    rw [hv] at hj
    have hj : v = (cutS (w3 s 1) [47]).2.1 := hj
    have e0 : x2 s 0 = (cutS (w3 s 1) [47]).1 := by unfold x2; rw [c2]; rfl
    have e1 : x2 s 1 = (cutS (w3 s 1) [47]).2.1 := by unfold x2; rw [c2, hv, hj]; rfl
    rw [e0] at h4; rw [e1] at h5
    exact ⟨h3, c1, h4, h5, h6⟩
  · rw [c2] at h2; simp at h2
def readQ (s : List UInt8) : Pos := ⟨(nums (cutS (w3 s 1) [47]).1).1 ++ (nums (cutS (w3 s 1) [47]).2.1).1, (nums (w3 s 2)).1, (num (w3 s 0)).1⟩
theorem first_yes {s : List UInt8} (h3 : (split 32 s).length = 3) (h : first5 s) : readP0 s = if (nums (cutS (w3 s 1) [47]).1).1.length = (nums (cutS (w3 s 1) [47]).2.1).1.length then (readQ s, true) else (Pos.zero, false) := by
  have hx := first_x h
  have e0 : x2 s 0 = (cutS (w3 s 1) [47]).1 := by unfold x2; rw [hx]; rfl
  have e1 : x2 s 1 = (cutS (w3 s 1) [47]).2.1 := by unfold x2; rw [hx]; rfl
  obtain ⟨a, b, c, d, e⟩ := h
  by_cases hl : (nums (cutS (w3 s 1) [47]).1).1.length = (nums (cutS (w3 s 1) [47]).2.1).1.length
  · rw [if_pos hl]; unfold readP0 readQ
    rw [if_pos ⟨h3, by rw [hx]; rfl, a, by rw [e0]; exact c, by rw [e1]; exact d, e, by rw [e0, e1]; exact hl⟩, e0, e1]
  · rw [if_neg hl]
    exact readP0_no fun ⟨_, _, _, _, _, _, h9⟩ => hl (by rw [e0, e1] at h9; exact h9)
theorem read_text {s : List UInt8} (h3 : (split 32 s).length = 3) (h : first5 s) : s = dec (readQ s).player ++ 32 :: ((joinT (nums (cutS (w3 s 1) [47]).1).1 ++ 47 :: joinT (nums (cutS (w3 s 1) [47]).2.1).1) ++ 32 :: joinT (readQ s).stores) := by
  have hx := first_x h
  have hj := joinW_split 32 s
  have hk := joinW_split 47 (w3 s 1)
  rw [hx] at hk
  obtain ⟨w0, w1, w2, hw⟩ : ∃ w0 w1 w2, split 32 s = [w0, w1, w2] := by
    match hs : split 32 s, h3 with
    | [w0, w1, w2], _ => exact ⟨w0, w1, w2, rfl⟩
  have e0 : w3 s 0 = w0 := by unfold w3; rw [hw]; rfl
  have e1 : w3 s 1 = w1 := by unfold w3; rw [hw]; rfl
  have e2 : w3 s 2 = w2 := by unfold w3; rw [hw]; rfl
  obtain ⟨a, b, c, d, e⟩ := h
  unfold readQ
  show s = dec (num (w3 s 0)).1 ++ 32 :: ((joinT (nums (cutS (w3 s 1) [47]).1).1 ++ 47 :: joinT (nums (cutS (w3 s 1) [47]).2.1).1) ++ 32 :: joinT (nums (w3 s 2)).1)
  rw [num_dec a, nums_dec c, nums_dec d, nums_dec e]
  have hk : (cutS (w3 s 1) [47]).1 ++ 47 :: (cutS (w3 s 1) [47]).2.1 = w3 s 1 := hk
  rw [hk, e0, e1, e2]
  rw [hw] at hj
  exact hj.symm
theorem app_inj {b : UInt8} : ∀ {p q x y : List UInt8}, b ∉ p → b ∉ q → p ++ b :: x = q ++ b :: y → p = q ∧ x = y
  | [], [], x, y, _, _, h => ⟨rfl, by simpa using h⟩
  | [], c :: q, x, y, _, hq, h => by simp at h; exact absurd h.1 (fun e => hq (by simp [e]))
  | c :: p, [], x, y, hp, _, h => by simp at h; exact absurd h.1 (fun e => hp (by simp [e]))
  | c :: p, d :: q, x, y, hp, hq, h => by
    simp only [List.cons_append, List.cons.injEq] at h
    obtain ⟨rfl, h⟩ := h
    obtain ⟨h1, h2⟩ := app_inj (fun hm => hp (List.mem_cons_of_mem _ hm)) (fun hm => hq (List.mem_cons_of_mem _ hm)) h
    exact ⟨by rw [h1], h2⟩
theorem posText_eq (p : Pos) : posText p = dec p.player ++ 32 :: ((joinT (p.pits.take (p.pits.length / 2)) ++ 47 :: joinT (p.pits.drop (p.pits.length / 2))) ++ 32 :: joinT p.stores) := by
  unfold posText; simp
theorem read_same {r : Rul} {s : List UInt8} (h3 : (split 32 s).length = 3) (h : first5 s) (ho : okP r (readQ s) = true) : posText (readQ s) = s ↔ (nums (cutS (w3 s 1) [47]).1).1.length = (nums (cutS (w3 s 1) [47]).2.1).1.length := by
  have ht := read_text h3 h
  obtain ⟨a, b, c, d, e⟩ := h
  have hp : (readQ s).pits = (nums (cutS (w3 s 1) [47]).1).1 ++ (nums (cutS (w3 s 1) [47]).2.1).1 := rfl
  constructor
  · intro he
    rw [posText_eq] at he
    replace he := he.trans ht
    obtain ⟨_, he⟩ := app_inj (b := 32) (dec_no (c := 32) (.inl rfl)) (dec_no (c := 32) (.inl rfl)) he
    have nb : ∀ x y : List Int, (32 : UInt8) ∉ joinT x ++ 47 :: joinT y := fun x y hm => by
      rcases List.mem_append.1 hm with hm | hm
      · exact joinT_no (c := 32) (.inl rfl) hm
      · rcases List.mem_cons.1 hm with hm | hm
        · exact absurd hm (by decide)
        · exact joinT_no (c := 32) (.inl rfl) hm
    obtain ⟨he, _⟩ := app_inj (b := 32) (nb _ _) (nb _ _) he
    obtain ⟨he, _⟩ := app_inj (b := 47) (joinT_no (c := 47) (.inr rfl)) (joinT_no (c := 47) (.inr rfl)) he
    have hb := okP_bd ho
    have hne : (readQ s).pits.take ((readQ s).pits.length / 2) ≠ [] := fun hn => by
      have := congrArg List.length hn
      rw [List.length_take, List.length_nil] at this; omega
    have hnc : (nums (cutS (w3 s 1) [47]).1).1 ≠ [] := nums_ne (s := (cutS (w3 s 1) [47]).1) c
    have := joinT_inj_len (a := (readQ s).pits.take ((readQ s).pits.length / 2)) (b := (nums (cutS (w3 s 1) [47]).1).1) hne hnc he
    rw [List.length_take] at this
    have hl := congrArg List.length hp
    rw [List.length_append] at hl
    omega
  · intro hl
    have h2 : (readQ s).pits.length / 2 = (nums (cutS (w3 s 1) [47]).1).1.length := by rw [hp, List.length_append]; omega
    rw [posText_eq, h2, hp, List.take_left, List.drop_left]
    exact ht.symm
end Go.Proofs.YtdhmdaoijnnfjaaGreatDoor.M

namespace Go.Proofs.YtdhmdaoijnnfjaaGreatDoor.M
theorem w3_get {s : List UInt8} {i : Nat} (h : i < (split 32 s).length) : (split 32 s)[i]? = some (w3 s i) := by
  unfold w3; rw [List.getD_eq_getElem?_getD, List.getElem?_eq_getElem h]; rfl
theorem w3_len {s : List UInt8} {i : Nat} : (w3 s i).length ≤ s.length := by
  by_cases h : i < (split 32 s).length
  · exact split_mem 32 s _ (List.mem_of_getElem? (w3_get h))
  · unfold w3; rw [List.getD_eq_getElem?_getD, List.getElem?_eq_none (Nat.le_of_not_lt h)]; simp
theorem x2_get {s : List UInt8} {i : Nat} (h : i < (split 47 (w3 s 1)).length) : (split 47 (w3 s 1))[i]? = some (x2 s i) := by
  unfold x2; rw [List.getD_eq_getElem?_getD, List.getElem?_eq_getElem h]; rfl
theorem x2_len {s : List UInt8} {i : Nat} : (x2 s i).length ≤ s.length := by
  by_cases h : i < (split 47 (w3 s 1)).length
  · exact Nat.le_trans (split_mem 47 _ _ (List.mem_of_getElem? (x2_get h))) w3_len
  · unfold x2; rw [List.getD_eq_getElem?_getD, List.getElem?_eq_none (Nat.le_of_not_lt h)]; simp
theorem cutS_len2 (s sep : List UInt8) : (cutS s sep).1.length + (cutS s sep).2.1.length ≤ s.length := by
  unfold cutS; split
  · rename_i k h
    rw [List.find?_range_eq_some] at h
    have := h.1; unfold hit at this; simp only [Bool.and_eq_true, decide_eq_true_eq] at this
    simp only [List.length_take, List.length_drop]; omega
  · simp
theorem x2_sum {s : List UInt8} (h : (split 47 (w3 s 1)).length = 2) : (x2 s 0).length + (x2 s 1).length + 1 = (w3 s 1).length := by
  have hj := joinW_split 47 (w3 s 1)
  obtain ⟨a, b, hw⟩ : ∃ a b, split 47 (w3 s 1) = [a, b] := by
    match hs : split 47 (w3 s 1), h with
    | [a, b], _ => exact ⟨a, b, rfl⟩
  have e0 : x2 s 0 = a := by unfold x2; rw [hw]; rfl
  have e1 : x2 s 1 = b := by unfold x2; rw [hw]; rfl
  rw [hw] at hj
  rw [e0, e1, ← hj]
  simp [joinW]; omega
theorem readP_short {r : Rul} {s : List UInt8} (h : (split 32 s).length ≠ 3) : readP r s = (Pos.zero, false) :=
  readP_no (congrArg Prod.snd (readP0_no fun ⟨h1, _⟩ => h h1))
theorem readP_first {r : Rul} {s : List UInt8} (h : ¬ first5 s) : readP r s = (Pos.zero, false) := readP_no (congrArg Prod.snd (first_no h))
theorem readP_bad {r : Rul} {s : List UInt8} (h3 : (split 32 s).length = 3) (h : first5 s) (hb : okP r (readQ s) = false ∨ posTextR r (readQ s) ≠ s) : readP r s = (Pos.zero, false) := by
  have hf := first_yes h3 h
  by_cases hl : (nums (cutS (w3 s 1) [47]).1).1.length = (nums (cutS (w3 s 1) [47]).2.1).1.length
  · rw [if_pos hl] at hf
    unfold readP
    rw [if_neg]
    rintro ⟨h1, h2⟩
    rw [hf] at h2
    rcases hb with hb | hb
    · rw [hb] at h2; exact absurd h2 (by simp)
    · apply hb
      rw [posTextR_yes h2]
      exact (read_same h3 h h2).2 hl
  · rw [if_neg hl] at hf
    exact readP_no (congrArg Prod.snd hf)
theorem readP_good {r : Rul} {s : List UInt8} (h3 : (split 32 s).length = 3) (h : first5 s) (ho : okP r (readQ s) = true) (ht : posTextR r (readQ s) = s) : readP r s = (readQ s, true) := by
  have hf := first_yes h3 h
  rw [posTextR_yes ho] at ht
  rw [if_pos ((read_same h3 h ho).1 ht)] at hf
  unfold readP
  rw [if_pos ⟨by rw [hf], by rw [hf]; exact ho⟩, hf]
theorem readP_ok {r : Rul} {s : List UInt8} (h : (readP r s).2 = true) : okP r (readP r s).1 = true ∧ (readP r s).1 = readQ s ∧ (split 32 s).length = 3 ∧ first5 s := by
  by_cases h3 : (split 32 s).length = 3
  · by_cases hf : first5 s
    · by_cases hb : okP r (readQ s) = false ∨ posTextR r (readQ s) ≠ s
      · rw [readP_bad h3 hf hb] at h; exact absurd h (by simp)
      · simp only [not_or, Bool.not_eq_false, Classical.not_not] at hb
        have e := readP_good h3 hf hb.1 hb.2
        rw [e]; exact ⟨hb.1, rfl, h3, hf⟩
    · rw [readP_first hf] at h; exact absurd h (by simp)
  · rw [readP_short h3] at h; exact absurd h (by simp)
theorem dec_B' {n : Int} {x : UInt8} (h : x ∈ dec n) : x ≠ 100 := fun e => by
  have hb := dec_B h
  subst e
  revert hb; unfold decB; decide
theorem joinT_d {l : List Int} {x : UInt8} (h : x ∈ joinT l) : x ≠ 100 := fun e => by
  subst e
  rcases joinT_mem h with h | h
  · exact absurd h (by decide)
  · revert h; unfold decB; decide
theorem readP_bytes {r : Rul} {s : List UInt8} (h : (readP r s).2 = true) : ∀ x ∈ s, x ≠ 100 := by
  obtain ⟨_, _, h3, hf⟩ := readP_ok h
  intro x hx
  rw [read_text h3 hf] at hx
  simp only [List.mem_append, List.mem_cons] at hx
  rcases hx with hx | hx | (hx | hx | hx) | hx | hx
  · exact dec_B' hx
  · subst hx; decide
  · exact joinT_d hx
  · subst hx; decide
  · exact joinT_d hx
  · subst hx; decide
  · exact joinT_d hx
theorem readP0_yes {s : List UInt8} (h : (split 32 s).length = 3 ∧ (split 47 (w3 s 1)).length = 2 ∧ (num (w3 s 0)).2 = true ∧ (nums (x2 s 0)).2 = true ∧ (nums (x2 s 1)).2 = true ∧ (nums (w3 s 2)).2 = true ∧ (nums (x2 s 0)).1.length = (nums (x2 s 1)).1.length) :
    readP0 s = (⟨(nums (x2 s 0)).1 ++ (nums (x2 s 1)).1, (nums (w3 s 2)).1, (num (w3 s 0)).1⟩, true) := by unfold readP0; rw [if_pos h]
theorem readP_y {r : Rul} {s : List UInt8} (h1 : (readP0 s).2 = true) (h2 : okP r (readP0 s).1 = true) : readP r s = ((readP0 s).1, true) := by unfold readP; rw [if_pos ⟨h1, h2⟩]
theorem readP_n {r : Rul} {s : List UInt8} (h : ¬ ((readP0 s).2 = true ∧ okP r (readP0 s).1 = true)) : readP r s = (Pos.zero, false) := by unfold readP; rw [if_neg h]
theorem readP0_len (s : List UInt8) : (readP0 s).1.pits.length ≤ s.length + 2 ∧ (readP0 s).1.stores.length ≤ s.length + 1 := by
  unfold readP0; split
  · rename_i h
    have a := nums_len (x2 s 0); have b := nums_len (x2 s 1); have c := nums_len (w3 s 2)
    have d := x2_sum h.2.1; have e := w3_len (s := s) (i := 1); have f := w3_len (s := s) (i := 2)
    simp only [List.length_append]; omega
  · simp [Pos.zero]
def depthT : List UInt8 := [32, 100, 101, 112, 116, 104, 32]
def w5 (s : List UInt8) : List UInt8 := w3 s 0 ++ [32] ++ w3 s 1 ++ [32] ++ w3 s 2
def zIn (r : Rul) (s : List UInt8) : Bool := (cutS s depthT).2.2 && (num (cutS s depthT).2.1).2 && (readP r (cutS s depthT).1).2
def zIn2 (r : Rul) (s : List UInt8) : Bool := decide ((split 32 s).length = 5) && decide (w3 s 3 = [100, 101, 112, 116, 104]) && (readP r (w5 s)).2 && (num (w3 s 4)).2
theorem cutS_at {s sep : List UInt8} (h : (cutS s sep).2.2 = true) : s = (cutS s sep).1 ++ sep ++ (cutS s sep).2.1 := by
  unfold cutS at h ⊢
  split
  · rename_i k hk
    rw [List.find?_range_eq_some] at hk
    obtain ⟨h1, _, _⟩ := hk
    unfold hit at h1
    simp only [Bool.and_eq_true, decide_eq_true_eq] at h1
    show s = s.take k ++ sep ++ s.drop (k + sep.length)
    have : s.drop k = sep ++ s.drop (k + sep.length) := by
      rw [← List.drop_drop]
      conv => rhs; lhs; rw [← h1.2]
      exact (List.take_append_drop _ _).symm
    rw [List.append_assoc, ← this, List.take_append_drop]
  · rename_i hk
    rw [hk] at h; exact absurd h (by simp)
theorem split_join3 {s : List UInt8} (h3 : (split 32 s).length = 3) : s = w5 s := by
  have hj := joinW_split 32 s
  obtain ⟨a, b, c, hw⟩ : ∃ a b c, split 32 s = [a, b, c] := by
    match hs : split 32 s, h3 with
    | [a, b, c], _ => exact ⟨a, b, c, rfl⟩
  have e0 : w3 s 0 = a := by unfold w3; rw [hw]; rfl
  have e1 : w3 s 1 = b := by unfold w3; rw [hw]; rfl
  have e2 : w3 s 2 = c := by unfold w3; rw [hw]; rfl
  unfold w5
  rw [e0, e1, e2]
  rw [hw] at hj
  simpa [joinW] using hj.symm
theorem split_app_gen (b : UInt8) : ∀ (p q : List UInt8), split b (p ++ b :: q) = split b p ++ split b q
  | [], q => by simp [split]
  | x :: p, q => by
    have ih := split_app_gen b p q
    rw [List.cons_append, split]
    by_cases hx : x = b
    · rw [if_pos hx, ih, split, if_pos hx]; rfl
    · rw [if_neg hx, ih, split, if_neg hx]
      cases hs : split b p with
      | nil => exact absurd hs (split_ne b p)
      | cons w ws => rfl
theorem num_noblank {s : List UInt8} (h : (num s).2 = true) : (32 : UInt8) ∉ s := by
  rw [← num_dec h]; exact dec_no (.inl rfl)
theorem zIn_yes {r : Rul} {s : List UInt8} (h : zIn r s = true) : zIn2 r s = true ∧ w5 s = (cutS s depthT).1 ∧ w3 s 4 = (cutS s depthT).2.1 := by
  unfold zIn at h
  simp only [Bool.and_eq_true] at h
  obtain ⟨⟨h1, h2⟩, h3⟩ := h
  have hs := cutS_at h1
  generalize (cutS s depthT).1 = a at *
  generalize (cutS s depthT).2.1 = c at *
  obtain ⟨_, _, ha3, _⟩ := readP_ok h3
  have hsp : split 32 s = split 32 a ++ [[100, 101, 112, 116, 104], c] := by
    rw [hs, show a ++ depthT ++ c = a ++ 32 :: ([100, 101, 112, 116, 104] ++ 32 :: c) by simp [depthT], split_app_gen, split_app_gen, split_last 32 c (num_noblank h2)]
    rfl
  obtain ⟨x, y, z, hw⟩ : ∃ x y z, split 32 a = [x, y, z] := by
    match hs : split 32 a, ha3 with
    | [a, b, c], _ => exact ⟨a, b, c, rfl⟩
  rw [hw] at hsp
  have e0 : w3 s 0 = x := by unfold w3; rw [hsp]; rfl
  have e1 : w3 s 1 = y := by unfold w3; rw [hsp]; rfl
  have e2 : w3 s 2 = z := by unfold w3; rw [hsp]; rfl
  have e3 : w3 s 3 = [100, 101, 112, 116, 104] := by unfold w3; rw [hsp]; rfl
  have e4 : w3 s 4 = c := by unfold w3; rw [hsp]; rfl
  have e5 : w5 s = a := by
    have := split_join3 ha3
    unfold w5 at this ⊢
    rw [e0, e1, e2, this]
    have f0 : w3 a 0 = x := by unfold w3; rw [hw]; rfl
    have f1 : w3 a 1 = y := by unfold w3; rw [hw]; rfl
    have f2 : w3 a 2 = z := by unfold w3; rw [hw]; rfl
    rw [f0, f1, f2]
  refine ⟨?_, e5, e4⟩
  unfold zIn2
  rw [hsp, e3, e4, e5, h2, h3]
  rfl
theorem zIn2_yes {r : Rul} {s : List UInt8} (h : zIn2 r s = true) : zIn r s = true := by
  unfold zIn2 at h
  simp only [Bool.and_eq_true, decide_eq_true_eq] at h
  obtain ⟨⟨⟨h5, hd⟩, h3⟩, h4⟩ := h
  have hj := joinW_split 32 s
  obtain ⟨x, y, z, d, c, hw⟩ : ∃ x y z d c, split 32 s = [x, y, z, d, c] := by
    match hs : split 32 s, h5 with
    | [x, y, z, d, c], _ => exact ⟨x, y, z, d, c, rfl⟩
  have e0 : w3 s 0 = x := by unfold w3; rw [hw]; rfl
  have e1 : w3 s 1 = y := by unfold w3; rw [hw]; rfl
  have e2 : w3 s 2 = z := by unfold w3; rw [hw]; rfl
  have e3 : w3 s 3 = d := by unfold w3; rw [hw]; rfl
  have e4 : w3 s 4 = c := by unfold w3; rw [hw]; rfl
  rw [e4] at h4
  rw [e3] at hd
  rw [hw] at hj
  have hs : s = w5 s ++ depthT ++ c := by
    unfold w5; rw [e0, e1, e2]
    rw [← hj, hd]
    simp [joinW, depthT]
  have hb := readP_bytes h3
  generalize w5 s = a at *
  have hl : s.length = a.length + 7 + c.length := by rw [hs]; simp [depthT]; omega
  have hc : cutS s depthT = (a, c, true) := by
    have h1 : (s.drop a.length).take depthT.length = depthT := by rw [hs, List.append_assoc, List.drop_left, List.take_left]
    rw [cutS_yes (k := a.length) (by rw [hl]; simp [depthT]) h1 ?_]
    · have e1 : s.take a.length = a := by rw [hs, List.append_assoc, List.take_left]
      have e2 : s.drop (a.length + depthT.length) = c := by rw [hs, ← List.length_append, List.drop_left]
      rw [e1, e2]
    · intro i hi he
      have hg : s[i + 1]? = some 100 := by
        have := congrArg (fun l => l[1]?) he
        simpa [List.getElem?_take, List.getElem?_drop, depthT] using this
      rw [hs, List.append_assoc, List.getElem?_append] at hg
      by_cases h9 : i + 1 < a.length
      · rw [if_pos h9] at hg
        exact hb 100 (List.mem_of_getElem? hg) rfl
      · have : i + 1 - a.length = 0 := by omega
        rw [if_neg h9, this] at hg
        exact absurd hg (by simp [depthT])
  unfold zIn
  rw [hc]
  simp [h3, h4]
def zPuz (r : Rul) (s : List UInt8) : Puz × Int := puz r (readP r (cutS s depthT).1).1 (num (cutS s depthT).2.1).1
def readZ (r : Rul) (s : List UInt8) : Puz × Bool := if zIn r s = true then ((zPuz r s).1, decide ((zPuz r s).2 = 0)) else (Puz.zero, false)
theorem zIn_p {r : Rul} {s : List UInt8} (h : zIn r s = true) : (readP r (cutS s depthT).1).2 = true := by
  unfold zIn at h; simp only [Bool.and_eq_true] at h; exact h.2
theorem readZ_no {r : Rul} {s : List UInt8} (h : zIn r s = false) : readZ r s = (Puz.zero, false) := by unfold readZ; rw [if_neg (by simp [h])]
theorem readZ_yes {r : Rul} {s : List UInt8} (h : zIn r s = true) : readZ r s = ((zPuz r s).1, decide ((zPuz r s).2 = 0)) := by unfold readZ; rw [if_pos h]
theorem zIn2_no {r : Rul} {s : List UInt8} (h : zIn2 r s = false) : zIn r s = false := by
  cases e : zIn r s
  · rfl
  · rw [(zIn_yes e).1] at h; exact absurd h (by simp)
theorem zIn2_bad {r : Rul} {s : List UInt8} (h : ¬ ((split 32 s).length = 5 ∧ w3 s 3 = [100, 101, 112, 116, 104])) : zIn2 r s = false := by
  cases e : zIn2 r s
  · rfl
  · unfold zIn2 at e; simp only [Bool.and_eq_true, decide_eq_true_eq] at e; exact absurd ⟨e.1.1.1, e.1.1.2⟩ h
theorem zIn2_not {r : Rul} {s : List UInt8} (h : ¬ ((readP r (w5 s)).2 = true ∧ (num (w3 s 4)).2 = true)) : zIn2 r s = false := by
  cases e : zIn2 r s
  · rfl
  · unfold zIn2 at e; simp only [Bool.and_eq_true, decide_eq_true_eq] at e; exact absurd ⟨e.1.2, e.2⟩ h
theorem zIn2_all {r : Rul} {s : List UInt8} (h1 : (split 32 s).length = 5) (h2 : w3 s 3 = [100, 101, 112, 116, 104]) (h3 : (readP r (w5 s)).2 = true) (h4 : (num (w3 s 4)).2 = true) : zIn2 r s = true := by
  unfold zIn2; rw [h3, h4]; simp [h1, h2]
theorem puz_zero {r : Rul} {p : Pos} {depth : Int} : (puz r p depth).2 ≠ 0 → (puz r p depth).1 = Puz.zero := by
  unfold puz
  split
  · exact fun _ => rfl
  · split
    · exact fun _ => rfl
    · split
      · exact fun _ => rfl
      · exact fun h => absurd rfl h
theorem readZ_small (r : Rul) (s : List UInt8) : SmallP (readZ r s).1.position := by
  unfold readZ; split
  · exact puz_small _ _ _
  · exact ⟨by simp [Puz.zero, Pos.zero], by simp [Puz.zero, Pos.zero]⟩
end Go.Proofs.YtdhmdaoijnnfjaaGreatDoor.M


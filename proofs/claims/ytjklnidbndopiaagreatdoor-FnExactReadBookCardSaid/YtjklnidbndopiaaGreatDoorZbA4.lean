/- The table of types of the program, and what the types of the model are. -/
import Derived.Test.YtjklnidbndopiaaGreatDoorZbA2
import Derived.Test.YtjklnidbndopiaaGreatDoorZbA3
import Derived.Test.YtjklnidbndopiaaGreatDoorProg
import Derived.ProofKit
import Derived.SizedLaws
import Derived.Test.YtjklnidbndopiaaGreatDoorZbA1
import Derived.Laws.IdiomStrings
import Derived.Laws.IdiomCopy
import Derived.Laws.Slices
import Derived.Laws.Strings2
set_option linter.unusedSimpArgs false
set_option linter.unusedVariables false
namespace Go.Proofs.YtjklnidbndopiaaGreatDoor
open Go.RowKit
theorem cellsOk_cons {w : World} {T : Ty} {Ts : List Ty} : ∀ {vs : List Value}, cellsOk w (T :: Ts) vs → ∃ x r, vs = x :: r ∧ T.ok w x ∧ cellsOk w Ts r
  | x :: r, h => ⟨x, r, rfl, h.1, h.2⟩
theorem cellsOk_nil {w : World} : ∀ {vs : List Value}, cellsOk w [] vs → vs = []
  | [], _ => rfl
theorem cellsOwn_cons {w : World} {T : Ty} {Ts : List Ty} {fp : List Nat} : ∀ {vs : List Value}, cellsOwn w (T :: Ts) vs fp → ∃ x r f1 f2, vs = x :: r ∧ fp = f1 ++ f2 ∧ T.own w x f1 ∧ cellsOwn w Ts r f2
  | x :: r, ⟨f1, f2, e, a, b⟩ => ⟨x, r, f1, f2, rfl, e, a, b⟩
theorem cellsOwn_nil {w : World} {fp : List Nat} : ∀ {vs : List Value}, cellsOwn w [] vs fp → vs = [] ∧ fp = []
  | [], h => ⟨rfl, h⟩
theorem drop_flat {α β : Type} (f : α → List β) (k : Nat) (hf : ∀ a, (f a).length = k) : ∀ (l : List α) (i : Nat) (a : α), l[i]? = some a → ((l.flatMap f).drop (i * k)).take k = f a
  | x :: l, 0, a, h => by
    simp at h; subst h
    simp [List.flatMap_cons, hf, List.take_append]
  | x :: l, i + 1, a, h => by
    simp at h
    rw [List.flatMap_cons, Nat.succ_mul, Nat.add_comm, ← List.drop_drop, List.drop_left' (hf x)]
    exact drop_flat f k hf l i a h
  | [], _, _, h => by simp at h
theorem flat_len {α β : Type} (f : α → List β) (k : Nat) (hf : ∀ a, (f a).length = k) : ∀ (l : List α), (l.flatMap f).length = l.length * k
  | [] => by simp
  | x :: l => by rw [List.flatMap_cons, List.length_append, hf, flat_len f k hf l, List.length_cons, Nat.succ_mul, Nat.add_comm]
instance ty_2 : TyI Tryz.prog 2 false 1 := ⟨by kernel_rfl⟩
instance ty_4 : TyI Tryz.prog 4 false 1 := ⟨by kernel_rfl⟩
instance ty_9 : TyI Tryz.prog 9 false 1 := ⟨by kernel_rfl⟩
instance ty_29 : TyI Tryz.prog 29 true 9 := ⟨by kernel_rfl⟩
instance ty_30 : TyI Tryz.prog 30 false 1 := ⟨by kernel_rfl⟩
instance ty_32 : TyI Tryz.prog 32 true 10 := ⟨by kernel_rfl⟩
instance ty_42 : TyI Tryz.prog 42 false 1 := ⟨by kernel_rfl⟩
instance ty_44 : TyI Tryz.prog 44 true 3 := ⟨by kernel_rfl⟩
instance ty_54 : TyI Tryz.prog 54 false 1 := ⟨by kernel_rfl⟩
instance ty_58 : TyI Tryz.prog 58 true 3 := ⟨by kernel_rfl⟩
instance ty_67 : TyI Tryz.prog 67 true 2 := ⟨by kernel_rfl⟩
instance ty_131 : TyI Tryz.prog 131 false 1 := ⟨by kernel_rfl⟩
instance ty_150 : TyI Tryz.prog 150 true 6 := ⟨by kernel_rfl⟩
instance ty_153 : TyI Tryz.prog 153 true 4 := ⟨by kernel_rfl⟩
instance ty_193 : TyI Tryz.prog 193 false 1 := ⟨by kernel_rfl⟩
instance ty_195 : TyI Tryz.prog 195 true 11 := ⟨by kernel_rfl⟩
instance ty_205 : TyI Tryz.prog 205 true 15 := ⟨by kernel_rfl⟩
instance fld_29_0 : FldI Tryz.prog 29 0 0 2 false 1 := ⟨by kernel_rfl⟩
instance fld_29_1 : FldI Tryz.prog 29 1 1 2 false 1 := ⟨by kernel_rfl⟩
instance fld_29_2 : FldI Tryz.prog 29 2 2 4 false 1 := ⟨by kernel_rfl⟩
instance fld_29_3 : FldI Tryz.prog 29 3 3 4 false 1 := ⟨by kernel_rfl⟩
instance fld_29_4 : FldI Tryz.prog 29 4 4 4 false 1 := ⟨by kernel_rfl⟩
instance fld_29_5 : FldI Tryz.prog 29 5 5 4 false 1 := ⟨by kernel_rfl⟩
instance fld_29_6 : FldI Tryz.prog 29 6 6 4 false 1 := ⟨by kernel_rfl⟩
instance fld_29_7 : FldI Tryz.prog 29 7 7 2 false 1 := ⟨by kernel_rfl⟩
instance fld_29_8 : FldI Tryz.prog 29 8 8 2 false 1 := ⟨by kernel_rfl⟩
instance fld_32_0 : FldI Tryz.prog 32 0 0 29 true 9 := ⟨by kernel_rfl⟩
instance fld_32_1 : FldI Tryz.prog 32 1 9 30 false 1 := ⟨by kernel_rfl⟩
instance fld_44_0 : FldI Tryz.prog 44 0 0 42 false 1 := ⟨by kernel_rfl⟩
instance fld_44_1 : FldI Tryz.prog 44 1 1 42 false 1 := ⟨by kernel_rfl⟩
instance fld_44_2 : FldI Tryz.prog 44 2 2 2 false 1 := ⟨by kernel_rfl⟩
instance fld_58_0 : FldI Tryz.prog 58 0 0 2 false 1 := ⟨by kernel_rfl⟩
instance fld_58_1 : FldI Tryz.prog 58 1 1 2 false 1 := ⟨by kernel_rfl⟩
instance fld_58_2 : FldI Tryz.prog 58 2 2 2 false 1 := ⟨by kernel_rfl⟩
instance fld_67_0 : FldI Tryz.prog 67 0 0 42 false 1 := ⟨by kernel_rfl⟩
instance fld_67_1 : FldI Tryz.prog 67 1 1 54 false 1 := ⟨by kernel_rfl⟩
instance fld_150_2 : FldI Tryz.prog 150 2 2 4 false 1 := ⟨by kernel_rfl⟩
instance fld_150_3 : FldI Tryz.prog 150 3 3 44 true 3 := ⟨by kernel_rfl⟩
instance fld_153_0 : FldI Tryz.prog 153 0 0 42 false 1 := ⟨by kernel_rfl⟩
instance fld_153_1 : FldI Tryz.prog 153 1 1 42 false 1 := ⟨by kernel_rfl⟩
instance fld_153_2 : FldI Tryz.prog 153 2 2 2 false 1 := ⟨by kernel_rfl⟩
instance fld_153_3 : FldI Tryz.prog 153 3 3 2 false 1 := ⟨by kernel_rfl⟩
instance fld_195_0 : FldI Tryz.prog 195 0 0 29 true 9 := ⟨by kernel_rfl⟩
instance fld_195_1 : FldI Tryz.prog 195 1 9 131 false 1 := ⟨by kernel_rfl⟩
instance fld_195_2 : FldI Tryz.prog 195 2 10 193 false 1 := ⟨by kernel_rfl⟩
instance fld_205_0 : FldI Tryz.prog 205 0 0 29 true 9 := ⟨by kernel_rfl⟩
instance fld_205_1 : FldI Tryz.prog 205 1 9 2 false 1 := ⟨by kernel_rfl⟩
instance fld_205_2 : FldI Tryz.prog 205 2 10 153 true 4 := ⟨by kernel_rfl⟩
instance fld_205_3 : FldI Tryz.prog 205 3 14 42 false 1 := ⟨by kernel_rfl⟩
instance eI_30 : ElI Tryz.prog 30 67 2 48 [.slice none 0 0, .slice none 0 0] := ⟨by kernel_rfl⟩
theorem el_30 : elOf Tryz.prog 30 = some (67, 2, 48, [.slice none 0 0, .slice none 0 0]) := ElI.h
instance eI_40 : ElI Tryz.prog 40 5 1 1 [.int .u8 0] := ⟨by kernel_rfl⟩
theorem el_40 : elOf Tryz.prog 40 = some (5, 1, 1, [.int .u8 0]) := ElI.h
instance eI_42 : ElI Tryz.prog 42 2 1 8 [.int .i64 0] := ⟨by kernel_rfl⟩
theorem el_42 : elOf Tryz.prog 42 = some (2, 1, 8, [.int .i64 0]) := ElI.h
instance eI_54 : ElI Tryz.prog 54 58 3 24 [.int .i64 0, .int .i64 0, .int .i64 0] := ⟨by kernel_rfl⟩
theorem el_54 : elOf Tryz.prog 54 = some (58, 3, 24, [.int .i64 0, .int .i64 0, .int .i64 0]) := ElI.h
instance eI_72 : ElI Tryz.prog 72 9 1 16 [.string ByteArray.empty] := ⟨by kernel_rfl⟩
theorem el_72 : elOf Tryz.prog 72 = some (9, 1, 16, [.string ByteArray.empty]) := ElI.h
instance eI_131 : ElI Tryz.prog 131 190 3 32 [.int .i64 0, .int .i64 0, .string ByteArray.empty] := ⟨by kernel_rfl⟩
theorem el_131 : elOf Tryz.prog 131 = some (190, 3, 32, [.int .i64 0, .int .i64 0, .string ByteArray.empty]) := ElI.h
instance eI_186 : ElI Tryz.prog 186 4 1 1 [.bool false] := ⟨by kernel_rfl⟩
theorem el_186 : elOf Tryz.prog 186 = some (4, 1, 1, [.bool false]) := ElI.h
instance zero_29 : ZeroI Tryz.prog 29 [.int .i64 0, .int .i64 0, .bool false, .bool false, .bool false, .bool false, .bool false, .int .i64 0, .int .i64 0] := ⟨by kernel_rfl⟩
instance zero_32 : ZeroI Tryz.prog 32 [.int .i64 0, .int .i64 0, .bool false, .bool false, .bool false, .bool false, .bool false, .int .i64 0, .int .i64 0, .slice none 0 0] := ⟨by kernel_rfl⟩
instance zero_44 : ZeroI Tryz.prog 44 [.slice none 0 0, .slice none 0 0, .int .i64 0] := ⟨by kernel_rfl⟩
instance zero_58 : ZeroI Tryz.prog 58 [.int .i64 0, .int .i64 0, .int .i64 0] := ⟨by kernel_rfl⟩
instance zero_67 : ZeroI Tryz.prog 67 [.slice none 0 0, .slice none 0 0] := ⟨by kernel_rfl⟩
instance zero_150 : ZeroI Tryz.prog 150 [.int .i64 0, .int .i64 0, .bool false, .slice none 0 0, .slice none 0 0, .int .i64 0] := ⟨by kernel_rfl⟩
instance zero_153 : ZeroI Tryz.prog 153 [.slice none 0 0, .slice none 0 0, .int .i64 0, .int .i64 0] := ⟨by kernel_rfl⟩
instance zero_190 : ZeroI Tryz.prog 190 [.int .i64 0, .int .i64 0, .string ByteArray.empty] := ⟨by kernel_rfl⟩
instance zero_195 : ZeroI Tryz.prog 195 [.int .i64 0, .int .i64 0, .bool false, .bool false, .bool false, .bool false, .bool false, .int .i64 0, .int .i64 0, .slice none 0 0, .map none] := ⟨by kernel_rfl⟩
instance zero_205 : ZeroI Tryz.prog 205 [.int .i64 0, .int .i64 0, .bool false, .bool false, .bool false, .bool false, .bool false, .int .i64 0, .int .i64 0, .int .i64 0, .slice none 0 0, .slice none 0 0, .int .i64 0, .int .i64 0, .slice none 0 0] := ⟨by kernel_rfl⟩
instance flds_29 : FldsI Tryz.prog 29 [(0, 1), (1, 1), (2, 1), (3, 1), (4, 1), (5, 1), (6, 1), (7, 1), (8, 1)] := ⟨by kernel_rfl⟩
instance flds_32 : FldsI Tryz.prog 32 [(0, 9), (9, 1)] := ⟨by kernel_rfl⟩
instance flds_44 : FldsI Tryz.prog 44 [(0, 1), (1, 1), (2, 1)] := ⟨by kernel_rfl⟩
instance flds_58 : FldsI Tryz.prog 58 [(0, 1), (1, 1), (2, 1)] := ⟨by kernel_rfl⟩
instance flds_67 : FldsI Tryz.prog 67 [(0, 1), (1, 1)] := ⟨by kernel_rfl⟩
instance flds_150 : FldsI Tryz.prog 150 [(0, 1), (1, 1), (2, 1), (3, 3)] := ⟨by kernel_rfl⟩
instance flds_153 : FldsI Tryz.prog 153 [(0, 1), (1, 1), (2, 1), (3, 1)] := ⟨by kernel_rfl⟩
instance flds_190 : FldsI Tryz.prog 190 [(0, 1), (1, 1), (2, 1)] := ⟨by kernel_rfl⟩
instance flds_195 : FldsI Tryz.prog 195 [(0, 9), (9, 1), (10, 1)] := ⟨by kernel_rfl⟩
instance flds_205 : FldsI Tryz.prog 205 [(0, 9), (9, 1), (10, 4), (14, 1)] := ⟨by kernel_rfl⟩
instance fn_9 : FnI Tryz.prog 9 := ⟨by kernel_rfl⟩
instance fn_10 : FnI Tryz.prog 10 := ⟨by kernel_rfl⟩
instance fn_11 : FnI Tryz.prog 11 := ⟨by kernel_rfl⟩
instance fn_12 : FnI Tryz.prog 12 := ⟨by kernel_rfl⟩
instance fn_13 : FnI Tryz.prog 13 := ⟨by kernel_rfl⟩
instance fn_14 : FnI Tryz.prog 14 := ⟨by kernel_rfl⟩
instance fn_24 : FnI Tryz.prog 24 := ⟨by kernel_rfl⟩
instance fn_28 : FnI Tryz.prog 28 := ⟨by kernel_rfl⟩
instance fn_32 : FnI Tryz.prog 32 := ⟨by kernel_rfl⟩
instance fn_33 : FnI Tryz.prog 33 := ⟨by kernel_rfl⟩
instance fn_34 : FnI Tryz.prog 34 := ⟨by kernel_rfl⟩
instance fn_35 : FnI Tryz.prog 35 := ⟨by kernel_rfl⟩
instance fn_36 : FnI Tryz.prog 36 := ⟨by kernel_rfl⟩
instance fn_37 : FnI Tryz.prog 37 := ⟨by kernel_rfl⟩
instance fn_38 : FnI Tryz.prog 38 := ⟨by kernel_rfl⟩
instance fn_39 : FnI Tryz.prog 39 := ⟨by kernel_rfl⟩
instance fn_40 : FnI Tryz.prog 40 := ⟨by kernel_rfl⟩
instance fn_41 : FnI Tryz.prog 41 := ⟨by kernel_rfl⟩
instance fn_42 : FnI Tryz.prog 42 := ⟨by kernel_rfl⟩
instance fn_43 : FnI Tryz.prog 43 := ⟨by kernel_rfl⟩
instance fn_44 : FnI Tryz.prog 44 := ⟨by kernel_rfl⟩
instance fn_45 : FnI Tryz.prog 45 := ⟨by kernel_rfl⟩
instance fn_46 : FnI Tryz.prog 46 := ⟨by kernel_rfl⟩
instance fn_53 : FnI Tryz.prog 53 := ⟨by kernel_rfl⟩
instance fn_54 : FnI Tryz.prog 54 := ⟨by kernel_rfl⟩
instance fn_55 : FnI Tryz.prog 55 := ⟨by kernel_rfl⟩
instance fn_60 : FnI Tryz.prog 60 := ⟨by kernel_rfl⟩
instance fn_61 : FnI Tryz.prog 61 := ⟨by kernel_rfl⟩
instance fn_62 : FnI Tryz.prog 62 := ⟨by kernel_rfl⟩
instance fn_72 : FnI Tryz.prog 72 := ⟨by kernel_rfl⟩
instance fn_73 : FnI Tryz.prog 73 := ⟨by kernel_rfl⟩
instance fn_74 : FnI Tryz.prog 74 := ⟨by kernel_rfl⟩
instance fn_77 : FnI Tryz.prog 77 := ⟨by kernel_rfl⟩
instance fn_78 : FnI Tryz.prog 78 := ⟨by kernel_rfl⟩
instance fn_79 : FnI Tryz.prog 79 := ⟨by kernel_rfl⟩
instance fn_80 : FnI Tryz.prog 80 := ⟨by kernel_rfl⟩
instance fn_82 : FnI Tryz.prog 82 := ⟨by kernel_rfl⟩
instance fn_84 : FnI Tryz.prog 84 := ⟨by kernel_rfl⟩
instance fn_85 : FnI Tryz.prog 85 := ⟨by kernel_rfl⟩
instance fn_86 : FnI Tryz.prog 86 := ⟨by kernel_rfl⟩
instance fn_87 : FnI Tryz.prog 87 := ⟨by kernel_rfl⟩
instance fn_88 : FnI Tryz.prog 88 := ⟨by kernel_rfl⟩
instance fn_89 : FnI Tryz.prog 89 := ⟨by kernel_rfl⟩
instance fn_90 : FnI Tryz.prog 90 := ⟨by kernel_rfl⟩
instance fn_91 : FnI Tryz.prog 91 := ⟨by kernel_rfl⟩
instance fn_92 : FnI Tryz.prog 92 := ⟨by kernel_rfl⟩
instance fn_93 : FnI Tryz.prog 93 := ⟨by kernel_rfl⟩
instance fn_94 : FnI Tryz.prog 94 := ⟨by kernel_rfl⟩
instance fn_95 : FnI Tryz.prog 95 := ⟨by kernel_rfl⟩
instance fn_96 : FnI Tryz.prog 96 := ⟨by kernel_rfl⟩
instance fn_97 : FnI Tryz.prog 97 := ⟨by kernel_rfl⟩
instance fn_98 : FnI Tryz.prog 98 := ⟨by kernel_rfl⟩
instance fn_99 : FnI Tryz.prog 99 := ⟨by kernel_rfl⟩
instance fn_103 : FnI Tryz.prog 103 := ⟨by kernel_rfl⟩
instance fn_104 : FnI Tryz.prog 104 := ⟨by kernel_rfl⟩
instance fn_105 : FnI Tryz.prog 105 := ⟨by kernel_rfl⟩
instance fn_106 : FnI Tryz.prog 106 := ⟨by kernel_rfl⟩
instance fn_108 : FnI Tryz.prog 108 := ⟨by kernel_rfl⟩
instance fn_110 : FnI Tryz.prog 110 := ⟨by kernel_rfl⟩
instance fn_111 : FnI Tryz.prog 111 := ⟨by kernel_rfl⟩
instance fn_113 : FnI Tryz.prog 113 := ⟨by kernel_rfl⟩
instance fn_126 : FnI Tryz.prog 126 := ⟨by kernel_rfl⟩
instance fn_129 : FnI Tryz.prog 129 := ⟨by kernel_rfl⟩
instance fn_130 : FnI Tryz.prog 130 := ⟨by kernel_rfl⟩
instance fn_131 : FnI Tryz.prog 131 := ⟨by kernel_rfl⟩
instance fn_132 : FnI Tryz.prog 132 := ⟨by kernel_rfl⟩
instance fn_133 : FnI Tryz.prog 133 := ⟨by kernel_rfl⟩
instance fn_137 : FnI Tryz.prog 137 := ⟨by kernel_rfl⟩
instance fn_138 : FnI Tryz.prog 138 := ⟨by kernel_rfl⟩
instance fn_139 : FnI Tryz.prog 139 := ⟨by kernel_rfl⟩
instance fn_140 : FnI Tryz.prog 140 := ⟨by kernel_rfl⟩
instance fn_141 : FnI Tryz.prog 141 := ⟨by kernel_rfl⟩
instance fn_142 : FnI Tryz.prog 142 := ⟨by kernel_rfl⟩
instance fn_143 : FnI Tryz.prog 143 := ⟨by kernel_rfl⟩
instance fn_144 : FnI Tryz.prog 144 := ⟨by kernel_rfl⟩
instance fn_145 : FnI Tryz.prog 145 := ⟨by kernel_rfl⟩
instance fn_146 : FnI Tryz.prog 146 := ⟨by kernel_rfl⟩
instance fn_147 : FnI Tryz.prog 147 := ⟨by kernel_rfl⟩
instance fn_148 : FnI Tryz.prog 148 := ⟨by kernel_rfl⟩
instance fn_149 : FnI Tryz.prog 149 := ⟨by kernel_rfl⟩
instance fn_150 : FnI Tryz.prog 150 := ⟨by kernel_rfl⟩
instance fn_151 : FnI Tryz.prog 151 := ⟨by kernel_rfl⟩
instance fn_152 : FnI Tryz.prog 152 := ⟨by kernel_rfl⟩
instance fn_153 : FnI Tryz.prog 153 := ⟨by kernel_rfl⟩
instance fn_154 : FnI Tryz.prog 154 := ⟨by kernel_rfl⟩
instance fn_155 : FnI Tryz.prog 155 := ⟨by kernel_rfl⟩
instance fn_158 : FnI Tryz.prog 158 := ⟨by kernel_rfl⟩
instance fn_164 : FnI Tryz.prog 164 := ⟨by kernel_rfl⟩
instance fn_165 : FnI Tryz.prog 165 := ⟨by kernel_rfl⟩
instance fn_166 : FnI Tryz.prog 166 := ⟨by kernel_rfl⟩
instance fn_167 : FnI Tryz.prog 167 := ⟨by kernel_rfl⟩
instance fn_168 : FnI Tryz.prog 168 := ⟨by kernel_rfl⟩
instance fn_169 : FnI Tryz.prog 169 := ⟨by kernel_rfl⟩
instance fn_170 : FnI Tryz.prog 170 := ⟨by kernel_rfl⟩
instance fn_171 : FnI Tryz.prog 171 := ⟨by kernel_rfl⟩
instance fn_172 : FnI Tryz.prog 172 := ⟨by kernel_rfl⟩
instance fn_173 : FnI Tryz.prog 173 := ⟨by kernel_rfl⟩
instance fn_174 : FnI Tryz.prog 174 := ⟨by kernel_rfl⟩
instance fn_175 : FnI Tryz.prog 175 := ⟨by kernel_rfl⟩
instance fn_176 : FnI Tryz.prog 176 := ⟨by kernel_rfl⟩
instance fn_177 : FnI Tryz.prog 177 := ⟨by kernel_rfl⟩
instance fn_178 : FnI Tryz.prog 178 := ⟨by kernel_rfl⟩
instance fn_179 : FnI Tryz.prog 179 := ⟨by kernel_rfl⟩
instance fn_180 : FnI Tryz.prog 180 := ⟨by kernel_rfl⟩
instance fn_181 : FnI Tryz.prog 181 := ⟨by kernel_rfl⟩
instance fn_182 : FnI Tryz.prog 182 := ⟨by kernel_rfl⟩
instance fn_188 : FnI Tryz.prog 188 := ⟨by kernel_rfl⟩
instance fn_189 : FnI Tryz.prog 189 := ⟨by kernel_rfl⟩
instance fn_190 : FnI Tryz.prog 190 := ⟨by kernel_rfl⟩
instance fn_191 : FnI Tryz.prog 191 := ⟨by kernel_rfl⟩
instance fn_192 : FnI Tryz.prog 192 := ⟨by kernel_rfl⟩
instance fn_193 : FnI Tryz.prog 193 := ⟨by kernel_rfl⟩
instance fn_194 : FnI Tryz.prog 194 := ⟨by kernel_rfl⟩
instance fn_197 : FnI Tryz.prog 197 := ⟨by kernel_rfl⟩
instance fn_198 : FnI Tryz.prog 198 := ⟨by kernel_rfl⟩
instance fn_199 : FnI Tryz.prog 199 := ⟨by kernel_rfl⟩
instance uI_4 : UndI Tryz.prog 4 (.bool) := ⟨@Tryz.underlying4⟩
theorem und_4 : Tryz.prog.underlying 4 = some (.bool) := UndI.h
instance uI_9 : UndI Tryz.prog 9 (.string) := ⟨@Tryz.underlying9⟩
theorem und_9 : Tryz.prog.underlying 9 = some (.string) := UndI.h
instance uI_10 : UndI Tryz.prog 10 (.string) := ⟨@Tryz.underlying10⟩
instance uI_11 : UndI Tryz.prog 11 (.string) := ⟨@Tryz.underlying11⟩
instance uI_24 : UndI Tryz.prog 24 (.slice 121) := ⟨@Tryz.underlying24⟩
instance uI_30 : UndI Tryz.prog 30 (.slice 67) := ⟨@Tryz.underlying30⟩
theorem und_30 : Tryz.prog.underlying 30 = some (.slice 67) := UndI.h
instance uI_40 : UndI Tryz.prog 40 (.slice 5) := ⟨@Tryz.underlying40⟩
theorem und_40 : Tryz.prog.underlying 40 = some (.slice 5) := UndI.h
instance uI_42 : UndI Tryz.prog 42 (.slice 2) := ⟨@Tryz.underlying42⟩
theorem und_42 : Tryz.prog.underlying 42 = some (.slice 2) := UndI.h
instance uI_54 : UndI Tryz.prog 54 (.slice 58) := ⟨@Tryz.underlying54⟩
theorem und_54 : Tryz.prog.underlying 54 = some (.slice 58) := UndI.h
instance uI_72 : UndI Tryz.prog 72 (.slice 9) := ⟨@Tryz.underlying72⟩
theorem und_72 : Tryz.prog.underlying 72 = some (.slice 9) := UndI.h
instance uI_119 : UndI Tryz.prog 119 (.slice 218) := ⟨@Tryz.underlying119⟩
instance uI_131 : UndI Tryz.prog 131 (.slice 190) := ⟨@Tryz.underlying131⟩
theorem und_131 : Tryz.prog.underlying 131 = some (.slice 190) := UndI.h
instance uI_147 : UndI Tryz.prog 147 (.slice 150) := ⟨@Tryz.underlying147⟩
instance uI_186 : UndI Tryz.prog 186 (.slice 4) := ⟨@Tryz.underlying186⟩
theorem map_193 : MapF Tryz.prog 193 9 2 (.string) := ⟨@Tryz.underlying193, @Tryz.underlying9, by kernel_rfl⟩
instance mixI : MixI Tryz.prog := ⟨by kernel_rfl⟩
@[reducible] def cRules (x : M.Rul) : List Ty := [Ty.int x.pits, Ty.int x.seeds, Ty.bool x.stores, Ty.bool x.skip, Ty.bool x.relay, Ty.bool x.feed, Ty.bool x.again, Ty.int x.capture, Ty.int x.slam]
def lRules (xs : List M.Rul) : List Ty := xs.flatMap cRules
theorem lRules_length (xs : List M.Rul) : (lRules xs).length = xs.length * 9 := flat_len cRules 9 (fun _ => rfl) xs
instance : LenL lRules 9 := ⟨lRules_length⟩
@[reducible] def cPosition (x : M.Pos) : List Ty := [Ty.ints 2 x.pits, Ty.ints 2 x.stores, Ty.int x.player]
def lPosition (xs : List M.Pos) : List Ty := xs.flatMap cPosition
theorem lPosition_length (xs : List M.Pos) : (lPosition xs).length = xs.length * 3 := flat_len cPosition 3 (fun _ => rfl) xs
instance : LenL lPosition 3 := ⟨lPosition_length⟩
@[reducible] def cSown (x : M.Sw) : List Ty := [Ty.ints 2 x.pits, Ty.ints 2 x.stores, Ty.int x.last, Ty.int x.laps]
def lSown (xs : List M.Sw) : List Ty := xs.flatMap cSown
theorem lSown_length (xs : List M.Sw) : (lSown xs).length = xs.length * 4 := flat_len cSown 4 (fun _ => rfl) xs
instance : LenL lSown 4 := ⟨lSown_length⟩
@[reducible] def csowing (x : M.Sow) : List Ty := [Ty.int x.rules.pits, Ty.int x.rules.seeds, Ty.bool x.rules.stores, Ty.bool x.rules.skip, Ty.bool x.rules.relay, Ty.bool x.rules.feed, Ty.bool x.rules.again, Ty.int x.rules.capture, Ty.int x.rules.slam, Ty.int x.player, Ty.ints 2 x.sown.pits, Ty.ints 2 x.sown.stores, Ty.int x.sown.last, Ty.int x.sown.laps, Ty.ints 2 x.path]
theorem ref_sowing {u : World} {v : Value} {x : M.Sow} (h : (Ty.ref (csowing x)).ok u v) : ∃ b o A10 c10 A11 c11 A14 c14, v = .pointer (some ⟨b, o, none⟩) ∧ RowAt u b o [.int .i64 x.rules.pits, .int .i64 x.rules.seeds, .bool x.rules.stores, .bool x.rules.skip, .bool x.rules.relay, .bool x.rules.feed, .bool x.rules.again, .int .i64 x.rules.capture, .int .i64 x.rules.slam, .int .i64 x.player, .slice A10 x.sown.pits.length c10, .slice A11 x.sown.stores.length c11, .int .i64 x.sown.last, .int .i64 x.sown.laps, .slice A14 x.path.length c14] ∧ (Ty.ints 2 x.sown.pits).ok u (.slice A10 x.sown.pits.length c10) ∧ (Ty.ints 2 x.sown.stores).ok u (.slice A11 x.sown.stores.length c11) ∧ (Ty.ints 2 x.path).ok u (.slice A14 x.path.length c14) ∧ x.sown.pits.length ≤ c10 ∧ c10 ≤ 9223372036854775807 ∧ x.sown.stores.length ≤ c11 ∧ c11 ≤ 9223372036854775807 ∧ x.path.length ≤ c14 ∧ c14 ≤ 9223372036854775807 := by
  obtain ⟨b, o, vs, rfl, h, hr⟩ := h
  obtain ⟨x0, r, rfl, h0, h⟩ := cellsOk_cons h
  obtain ⟨x1, r, rfl, h1, h⟩ := cellsOk_cons h
  obtain ⟨x2, r, rfl, h2, h⟩ := cellsOk_cons h
  obtain ⟨x3, r, rfl, h3, h⟩ := cellsOk_cons h
  obtain ⟨x4, r, rfl, h4, h⟩ := cellsOk_cons h
  obtain ⟨x5, r, rfl, h5, h⟩ := cellsOk_cons h
  obtain ⟨x6, r, rfl, h6, h⟩ := cellsOk_cons h
  obtain ⟨x7, r, rfl, h7, h⟩ := cellsOk_cons h
  obtain ⟨x8, r, rfl, h8, h⟩ := cellsOk_cons h
  obtain ⟨x9, r, rfl, h9, h⟩ := cellsOk_cons h
  obtain ⟨x10, r, rfl, h10, h⟩ := cellsOk_cons h
  obtain ⟨x11, r, rfl, h11, h⟩ := cellsOk_cons h
  obtain ⟨x12, r, rfl, h12, h⟩ := cellsOk_cons h
  obtain ⟨x13, r, rfl, h13, h⟩ := cellsOk_cons h
  obtain ⟨x14, r, rfl, h14, h⟩ := cellsOk_cons h
  obtain rfl := cellsOk_nil h
  obtain rfl : x0 = .int .i64 x.rules.pits := h0
  obtain rfl : x1 = .int .i64 x.rules.seeds := h1
  obtain rfl : x2 = .bool x.rules.stores := h2
  obtain rfl : x3 = .bool x.rules.skip := h3
  obtain rfl : x4 = .bool x.rules.relay := h4
  obtain rfl : x5 = .bool x.rules.feed := h5
  obtain rfl : x6 = .bool x.rules.again := h6
  obtain rfl : x7 = .int .i64 x.rules.capture := h7
  obtain rfl : x8 = .int .i64 x.rules.slam := h8
  obtain rfl : x9 = .int .i64 x.player := h9
  obtain ⟨A10, c10, rfl, b10, d10⟩ := sl_form h10
  obtain ⟨A11, c11, rfl, b11, d11⟩ := sl_form h11
  obtain rfl : x12 = .int .i64 x.sown.last := h12
  obtain rfl : x13 = .int .i64 x.sown.laps := h13
  obtain ⟨A14, c14, rfl, b14, d14⟩ := sl_form h14
  exact ⟨b, o, A10, c10, A11, c11, A14, c14, rfl, hr, h10, h11, h14, b10, d10, b11, d11, b14, d14⟩
def lsowing (xs : List M.Sow) : List Ty := xs.flatMap csowing
theorem lsowing_length (xs : List M.Sow) : (lsowing xs).length = xs.length * 15 := flat_len csowing 15 (fun _ => rfl) xs
instance : LenL lsowing 15 := ⟨lsowing_length⟩
@[reducible] def cResult (x : M.Res) : List Ty := [Ty.int x.move, Ty.int x.gain, Ty.bool x.again, Ty.ints 2 x.next.pits, Ty.ints 2 x.next.stores, Ty.int x.next.player]
def lResult (xs : List M.Res) : List Ty := xs.flatMap cResult
theorem lResult_length (xs : List M.Res) : (lResult xs).length = xs.length * 6 := flat_len cResult 6 (fun _ => rfl) xs
instance : LenL lResult 6 := ⟨lResult_length⟩
@[reducible] def cResultL (x : M.Res) : List Ty := [Ty.int x.move, Ty.int x.gain, Ty.bool x.again, Ty.any, Ty.any, Ty.any]
def lResultL (xs : List M.Res) : List Ty := xs.flatMap cResultL
theorem lResultL_length (xs : List M.Res) : (lResultL xs).length = xs.length * 6 := flat_len cResultL 6 (fun _ => rfl) xs
instance : LenL lResultL 6 := ⟨lResultL_length⟩
@[reducible] def cChoice (x : M.Cho) : List Ty := [Ty.int x.move, Ty.int x.games, Ty.int x.score]
def lChoice (xs : List M.Cho) : List Ty := xs.flatMap cChoice
theorem lChoice_length (xs : List M.Cho) : (lChoice xs).length = xs.length * 3 := flat_len cChoice 3 (fun _ => rfl) xs
instance : LenL lChoice 3 := ⟨lChoice_length⟩
theorem elem_Choice {u : World} {e c i : Nat} {A : Option Addr} {xs : List M.Cho} {x : M.Cho} (h : (Ty.sl e 3 xs.length (lChoice xs)).ok u (.slice A xs.length c)) (hi : xs[i]? = some x) : ∃ b o, elemA 3 (.slice A xs.length c) i = some ⟨b, o, none⟩ ∧ RowAt u b o [.int .i64 x.move, .int .i64 x.games, .int .i64 x.score] := by
  obtain ⟨b, o, vs, he, h, hr⟩ := sl_elem h (List.getElem?_eq_some_iff.1 hi).1 rfl
  have e := drop_flat cChoice 3 (fun _ => rfl) xs i x hi
  unfold lChoice at h
  rw [e] at h
  obtain ⟨x0, r, rfl, h0, h⟩ := cellsOk_cons h
  obtain ⟨x1, r, rfl, h1, h⟩ := cellsOk_cons h
  obtain ⟨x2, r, rfl, h2, h⟩ := cellsOk_cons h
  obtain rfl := cellsOk_nil h
  obtain rfl : x0 = .int .i64 x.move := h0
  obtain rfl : x1 = .int .i64 x.games := h1
  obtain rfl : x2 = .int .i64 x.score := h2
  exact ⟨b, o, he, hr⟩
@[reducible] def vcChoice (x : M.Cho) : List Value := [.int .i64 x.move, .int .i64 x.games, .int .i64 x.score]
instance flt_Choice : FltL lChoice vcChoice 3 := flt_mk cChoice vcChoice 3 (fun w x => ⟨[], [], rfl, ⟨rfl, rfl⟩, ⟨[], [], rfl, ⟨rfl, rfl⟩, ⟨[], [], rfl, ⟨rfl, rfl⟩, rfl⟩⟩⟩) (fun w x vs f h => by
    obtain ⟨x0, r0, g0, q0, rfl, rfl, ⟨rfl, rfl⟩, h0⟩ := cellsOwn_cons h
    obtain ⟨x1, r1, g1, q1, rfl, rfl, ⟨rfl, rfl⟩, h1⟩ := cellsOwn_cons h0
    obtain ⟨x2, r2, g2, q2, rfl, rfl, ⟨rfl, rfl⟩, h2⟩ := cellsOwn_cons h1
    obtain ⟨rfl, rfl⟩ := cellsOwn_nil h2
    exact ⟨rfl, rfl⟩) (fun w x vs h => by
    obtain ⟨x0, r, rfl, h0, h⟩ := cellsOk_cons h
    obtain ⟨x1, r, rfl, h1, h⟩ := cellsOk_cons h
    obtain ⟨x2, r, rfl, h2, h⟩ := cellsOk_cons h
    obtain rfl := cellsOk_nil h
    obtain rfl : x0 = .int .i64 x.move := h0
    obtain rfl : x1 = .int .i64 x.games := h1
    obtain rfl : x2 = .int .i64 x.score := h2
    rfl) (fun _ => rfl) (fun _ => rfl) (fun _ => rfl) (by decide)
@[reducible] def cProblem (x : M.Prb) : List Ty := [Ty.int x.kind, Ty.int x.at1, Ty.str x.word]
def lProblem (xs : List M.Prb) : List Ty := xs.flatMap cProblem
theorem lProblem_length (xs : List M.Prb) : (lProblem xs).length = xs.length * 3 := flat_len cProblem 3 (fun _ => rfl) xs
instance : LenL lProblem 3 := ⟨lProblem_length⟩
@[reducible] def vcProblem (x : M.Prb) : List Value := [.int .i64 x.kind, .int .i64 x.at1, .string (sB x.word)]
instance flt_Problem : FltL lProblem vcProblem 3 := flt_mk cProblem vcProblem 3 (fun w x => ⟨[], [], rfl, ⟨rfl, rfl⟩, ⟨[], [], rfl, ⟨rfl, rfl⟩, ⟨[], [], rfl, ⟨rfl, rfl⟩, rfl⟩⟩⟩) (fun w x vs f h => by
    obtain ⟨x0, r0, g0, q0, rfl, rfl, ⟨rfl, rfl⟩, h0⟩ := cellsOwn_cons h
    obtain ⟨x1, r1, g1, q1, rfl, rfl, ⟨rfl, rfl⟩, h1⟩ := cellsOwn_cons h0
    obtain ⟨x2, r2, g2, q2, rfl, rfl, ⟨rfl, rfl⟩, h2⟩ := cellsOwn_cons h1
    obtain ⟨rfl, rfl⟩ := cellsOwn_nil h2
    exact ⟨rfl, rfl⟩) (fun w x vs h => by
    obtain ⟨x0, r, rfl, h0, h⟩ := cellsOk_cons h
    obtain ⟨x1, r, rfl, h1, h⟩ := cellsOk_cons h
    obtain ⟨x2, r, rfl, h2, h⟩ := cellsOk_cons h
    obtain rfl := cellsOk_nil h
    obtain rfl : x0 = .int .i64 x.kind := h0
    obtain rfl : x1 = .int .i64 x.at1 := h1
    obtain rfl : x2 = .string (sB x.word) := h2
    rfl) (fun _ => rfl) (fun _ => rfl) (fun _ => rfl) (by decide)
@[reducible] def cbool (x : Bool) : List Ty := [Ty.bool x]
def lbool (xs : List Bool) : List Ty := xs.flatMap cbool
theorem lbool_length (xs : List Bool) : (lbool xs).length = xs.length * 1 := flat_len cbool 1 (fun _ => rfl) xs
instance : LenL lbool 1 := ⟨lbool_length⟩
@[reducible] def vcbool (x : Bool) : List Value := [.bool x]
instance flt_bool : FltL lbool vcbool 1 := flt_mk cbool vcbool 1 (fun w x => ⟨[], [], rfl, ⟨rfl, rfl⟩, rfl⟩) (fun w x vs f h => by
    obtain ⟨x0, r0, g0, q0, rfl, rfl, ⟨rfl, rfl⟩, h0⟩ := cellsOwn_cons h
    obtain ⟨rfl, rfl⟩ := cellsOwn_nil h0
    exact ⟨rfl, rfl⟩) (fun w x vs h => by
    obtain ⟨x0, r, rfl, h0, h⟩ := cellsOk_cons h
    obtain rfl := cellsOk_nil h
    obtain rfl : x0 = .bool x := h0
    rfl) (fun _ => rfl) (fun _ => rfl) (fun _ => rfl) (by decide)
@[reducible] def cBookEntry (x : M.Ent) : List Ty := [Ty.ints 2 x.pits, Ty.sl 58 3 x.choices.length (lChoice x.choices)]
def lBookEntry (xs : List M.Ent) : List Ty := xs.flatMap cBookEntry
theorem lBookEntry_length (xs : List M.Ent) : (lBookEntry xs).length = xs.length * 2 := flat_len cBookEntry 2 (fun _ => rfl) xs
instance : LenL lBookEntry 2 := ⟨lBookEntry_length⟩
theorem elem_BookEntry {u : World} {e c i : Nat} {A : Option Addr} {xs : List M.Ent} {x : M.Ent} (h : (Ty.sl e 2 xs.length (lBookEntry xs)).ok u (.slice A xs.length c)) (hi : xs[i]? = some x) : ∃ b o A0 c0 A1 c1, elemA 2 (.slice A xs.length c) i = some ⟨b, o, none⟩ ∧ RowAt u b o [.slice A0 x.pits.length c0, .slice A1 x.choices.length c1] ∧ (Ty.ints 2 x.pits).ok u (.slice A0 x.pits.length c0) ∧ (Ty.sl 58 3 x.choices.length (lChoice x.choices)).ok u (.slice A1 x.choices.length c1) ∧ x.pits.length ≤ c0 ∧ c0 ≤ 9223372036854775807 ∧ x.choices.length ≤ c1 ∧ c1 ≤ 9223372036854775807 := by
  obtain ⟨b, o, vs, he, h, hr⟩ := sl_elem h (List.getElem?_eq_some_iff.1 hi).1 rfl
  have e := drop_flat cBookEntry 2 (fun _ => rfl) xs i x hi
  unfold lBookEntry at h
  rw [e] at h
  obtain ⟨x0, r, rfl, h0, h⟩ := cellsOk_cons h
  obtain ⟨x1, r, rfl, h1, h⟩ := cellsOk_cons h
  obtain rfl := cellsOk_nil h
  obtain ⟨A0, c0, rfl, b0, d0⟩ := sl_form h0
  obtain ⟨A1, c1, rfl, b1, d1⟩ := sl_form h1
  exact ⟨b, o, A0, c0, A1, c1, he, hr, h0, h1, b0, d0, b1, d1⟩
theorem elemv_BookEntry {w : World} {i : Nat} {xs : List M.Ent} {x : M.Ent} {vs : List Value} (h : cellsOk w (lBookEntry xs) vs) (hi : xs[i]? = some x) : ∃ A0 c0 A1 c1, (vs.drop (0 + i * 2)).take 2 = [.slice A0 x.pits.length c0, .slice A1 x.choices.length c1] ∧ x.pits.length ≤ c0 ∧ c0 ≤ 9223372036854775807 ∧ x.choices.length ≤ c1 ∧ c1 ≤ 9223372036854775807 := by
  rw [Nat.zero_add]
  have h := cellsOk.take 2 (cellsOk.drop (i * 2) h)
  rw [lBookEntry, drop_flat cBookEntry 2 (fun _ => rfl) xs i x hi] at h
  generalize (vs.drop (i * 2)).take 2 = vs at h ⊢
  obtain ⟨x0, r, rfl, h0, h⟩ := cellsOk_cons h
  obtain ⟨x1, r, rfl, h1, h⟩ := cellsOk_cons h
  obtain rfl := cellsOk_nil h
  obtain ⟨A0, c0, rfl, b0, d0⟩ := sl_form h0
  obtain ⟨A1, c1, rfl, b1, d1⟩ := sl_form h1
  exact ⟨A0, c0, A1, c1, rfl, b0, d0, b1, d1⟩
theorem lBookEntry_snoc (xs : List M.Ent) (x : M.Ent) : lBookEntry xs ++ cBookEntry x = lBookEntry (xs ++ [x]) := by simp [lBookEntry]
@[reducible] def cBook (x : M.Boo) : List Ty := [Ty.int x.rules.pits, Ty.int x.rules.seeds, Ty.bool x.rules.stores, Ty.bool x.rules.skip, Ty.bool x.rules.relay, Ty.bool x.rules.feed, Ty.bool x.rules.again, Ty.int x.rules.capture, Ty.int x.rules.slam, Ty.sl 67 2 x.entries.length (lBookEntry x.entries)]
def lBook (xs : List M.Boo) : List Ty := xs.flatMap cBook
theorem lBook_length (xs : List M.Boo) : (lBook xs).length = xs.length * 10 := flat_len cBook 10 (fun _ => rfl) xs
instance : LenL lBook 10 := ⟨lBook_length⟩
@[reducible] def cPositionL (x : M.Pos) : List Ty := [Ty.rx 2 x.pits, Ty.ints 2 x.stores, Ty.int x.player]
def lPositionL (xs : List M.Pos) : List Ty := xs.flatMap cPositionL
theorem lPositionL_length (xs : List M.Pos) : (lPositionL xs).length = xs.length * 3 := flat_len cPositionL 3 (fun _ => rfl) xs
instance : LenL lPositionL 3 := ⟨lPositionL_length⟩
@[reducible] def cGameL (x : M.Gam) : List Ty := [Ty.int x.rules.pits, Ty.int x.rules.seeds, Ty.bool x.rules.stores, Ty.bool x.rules.skip, Ty.bool x.rules.relay, Ty.bool x.rules.feed, Ty.bool x.rules.again, Ty.int x.rules.capture, Ty.int x.rules.slam, Ty.ints 2 x.start.pits, Ty.ints 2 x.start.stores, Ty.int x.start.player, Ty.ro 2 x.moves, Ty.ints 2 x.now.pits, Ty.ints 2 x.now.stores, Ty.int x.now.player, Ty.int x.resigned]
def lGameL (xs : List M.Gam) : List Ty := xs.flatMap cGameL
theorem lGameL_length (xs : List M.Gam) : (lGameL xs).length = xs.length * 17 := flat_len cGameL 17 (fun _ => rfl) xs
instance : LenL lGameL 17 := ⟨lGameL_length⟩
@[reducible] def cGame (x : M.Gam) : List Ty := [Ty.int x.rules.pits, Ty.int x.rules.seeds, Ty.bool x.rules.stores, Ty.bool x.rules.skip, Ty.bool x.rules.relay, Ty.bool x.rules.feed, Ty.bool x.rules.again, Ty.int x.rules.capture, Ty.int x.rules.slam, Ty.ints 2 x.start.pits, Ty.ints 2 x.start.stores, Ty.int x.start.player, Ty.ints 2 x.moves, Ty.ints 2 x.now.pits, Ty.ints 2 x.now.stores, Ty.int x.now.player, Ty.int x.resigned]
def lGame (xs : List M.Gam) : List Ty := xs.flatMap cGame
theorem lGame_length (xs : List M.Gam) : (lGame xs).length = xs.length * 17 := flat_len cGame 17 (fun _ => rfl) xs
instance : LenL lGame 17 := ⟨lGame_length⟩
open Go.RowKit Go.ChangeShapes Go.WideShapes Go.ChangeAt
section
variable {H : Type} {enc : TypeId × Value → H} {w : World} {spare : Nat → Bool} {held : Bool} {fuel : Nat} {x : DataW H × List MemPlace} {cs : List Value}
end
section
variable {H : Type} {enc : TypeId × Value → H} {w : World} {spare : Nat → Bool} {held : Bool} {fuel : Nat} {x : DataW H × List MemPlace} {cs : List Value}
end
section
variable {H : Type} {enc : TypeId × Value → H} {w : World} {spare : Nat → Bool} {held : Bool} {fuel : Nat} {x : DataW H × List MemPlace} {cs : List Value}
end
end Go.Proofs.YtjklnidbndopiaaGreatDoor
namespace Go.Proofs.YtjklnidbndopiaaGreatDoor.M
def cmpL : List Int → List Int → Int
  | [], [] => 0
  | [], _ :: _ => -1
  | _ :: _, [] => 1
  | a :: x, b :: y => if a < b then -1 else if b < a then 1 else cmpL x y
theorem cmpL_lt {a b : List Int} {k : Nat} (h : cmpL (a.drop k) (b.drop k) = cmpL a b) (ha : k < a.length) (hb : k < b.length) (hl : nth a k < nth b k) : cmpL a b = -1 := by
  rw [← h, drop_nth ha, drop_nth hb, cmpL, if_pos hl]
theorem cmpL_gt {a b : List Int} {k : Nat} (h : cmpL (a.drop k) (b.drop k) = cmpL a b) (ha : k < a.length) (hb : k < b.length) (hl : nth b k < nth a k) : cmpL a b = 1 := by
  rw [← h, drop_nth ha, drop_nth hb, cmpL, if_neg (by omega), if_pos hl]
theorem cmpL_step {a b : List Int} {k : Nat} (h : cmpL (a.drop k) (b.drop k) = cmpL a b) (ha : k < a.length) (hb : k < b.length) (h1 : ¬ nth a k < nth b k) (h2 : ¬ nth b k < nth a k) : cmpL (a.drop (k + 1)) (b.drop (k + 1)) = cmpL a b := by
  rw [← h, drop_nth ha, drop_nth hb, cmpL, if_neg h1, if_neg h2]
theorem cmpL_end {a b : List Int} {k : Nat} (h : cmpL (a.drop k) (b.drop k) = cmpL a b) (hk : a.length ≤ k ∨ b.length ≤ k) (ha : k ≤ a.length) (hb : k ≤ b.length) : cmpL a b = if a.length < b.length then -1 else if b.length < a.length then 1 else 0 := by
  rw [← h]
  rcases Nat.lt_trichotomy a.length b.length with hl | hl | hl
  · rw [if_pos hl, List.drop_eq_nil_of_le (by omega), drop_nth (by omega)]; rfl
  · rw [if_neg (by omega), if_neg (by omega), List.drop_eq_nil_of_le (by omega), List.drop_eq_nil_of_le (by omega)]; rfl
  · rw [if_neg (by omega), if_pos hl, @List.drop_eq_nil_of_le _ b k (by omega), drop_nth (by omega)]; rfl
@[reducible] def posE (pits : List Int) : Pos := ⟨pits, [0, 0], 0⟩
def chAt (r : Rul) (p : Pos) (cs : List Cho) (k : Nat) : Bool :=
  (decide (k = 0) || decide ((cho cs (k - 1)).move < (cho cs k).move)) && decide ((make r p (cho cs k).move).2 = 0) && betw (cho cs k).games 1 1000000 && betw (cho cs k).score 0 (2 * (cho cs k).games)
def okCs (r : Rul) (p : Pos) (cs : List Cho) : Bool := (List.range cs.length).all (chAt r p cs)
def okE (r : Rul) (e : Ent) : Bool := okP r (posE e.pits) && decide (0 < e.choices.length) && okCs r (posE e.pits) e.choices
def entAt (r : Rul) (es : List Ent) (k : Nat) : Bool := (decide (k = 0) || decide (cmpL (ent es (k - 1)).pits (ent es k).pits < 0)) && okE r (ent es k)
def okB (b : Boo) : Bool := okR b.rules && decide (b.entries.length ≤ 200) && (List.range b.entries.length).all (entAt b.rules b.entries)
def AllB (f : Nat → Bool) (k : Nat) : Prop := ∀ i, i < k → f i = true
theorem AllB.zero (f : Nat → Bool) : AllB f 0 := fun i h => absurd h (by omega)
theorem AllB.step {f : Nat → Bool} {k : Nat} (h : AllB f k) (hk : f k = true) : AllB f (k + 1) := fun i hi => by
  by_cases e : i = k
  · rw [e]; exact hk
  · exact h i (by omega)
theorem all_yes {f : Nat → Bool} {n k : Nat} (h : AllB f k) (hk : n ≤ k) : (List.range n).all f = true := by
  rw [List.all_eq_true]; intro i hi; exact h i (by have := List.mem_range.1 hi; omega)
theorem all_no {f : Nat → Bool} {n k : Nat} (hk : k < n) (h : f k = false) : (List.range n).all f = false := by
  cases e : (List.range n).all f
  · rfl
  · rw [List.all_eq_true] at e; rw [e k (List.mem_range.2 hk)] at h; exact absurd h (by simp)
theorem pred_nat {k : Nat} : ((k : Int) - 1).toNat = k - 1 := by omega
theorem prev_lt (k : Nat) (a b : Int) : (decide (k = 0) || decide (a < b)) = !(decide (0 < (k : Int)) && decide (b ≤ a)) := by
  by_cases hk : k = 0
  · subst hk; simp
  · have h1 : (0 : Int) < (k : Int) := by omega
    rw [decide_eq_false hk, decide_eq_true h1]
    by_cases hab : a < b
    · rw [decide_eq_true hab, decide_eq_false (by omega)]; rfl
    · rw [decide_eq_false hab, decide_eq_true (by omega)]; rfl
theorem chAt_eq (r : Rul) (p : Pos) (cs : List Cho) (k : Nat) : chAt r p cs k = !(((decide (0 < (k : Int)) && decide ((cho cs k).move ≤ (cho cs (((k : Int) - 1).toNat)).move) || !decide ((make r p (cho cs k).move).2 = 0)) || !betw (cho cs k).games 1 1000000) || !betw (cho cs k).score 0 (2 * (cho cs k).games)) := by
  unfold chAt
  rw [prev_lt, pred_nat]
  simp only [Bool.not_or, Bool.not_not]
theorem chAt_yes {r : Rul} {p : Pos} {cs : List Cho} {k : Nat} (h : (((decide (0 < (k : Int)) && decide ((cho cs k).move ≤ (cho cs (((k : Int) - 1).toNat)).move) || !decide ((make r p (cho cs k).move).2 = 0)) || !betw (cho cs k).games 1 1000000) || !betw (cho cs k).score 0 (2 * (cho cs k).games)) = false) : chAt r p cs k = true := by rw [chAt_eq, h]; rfl
theorem chAt_no {r : Rul} {p : Pos} {cs : List Cho} {k : Nat} (h : (((decide (0 < (k : Int)) && decide ((cho cs k).move ≤ (cho cs (((k : Int) - 1).toNat)).move) || !decide ((make r p (cho cs k).move).2 = 0)) || !betw (cho cs k).games 1 1000000) || !betw (cho cs k).score 0 (2 * (cho cs k).games)) = true) : chAt r p cs k = false := by rw [chAt_eq, h]; rfl
theorem chAt_prev {r : Rul} {p : Pos} {cs : List Cho} {k : Nat} (h : (decide (0 < (k : Int)) && decide ((cho cs k).move ≤ (cho cs (((k : Int) - 1).toNat)).move)) = true) : chAt r p cs k = false := chAt_no (by rw [h]; rfl)
def ch18 (cs : List Cho) (k : Nat) : Bool := ((decide (0 < (k : Int)) && decide ((cho cs k).move ≤ (cho cs (((k : Int) - 1).toNat)).move)) || !betw (cho cs k).games 1 1000000) || !betw (cho cs k).score 0 (2 * (cho cs k).games)
theorem chAt_18 {r : Rul} {p : Pos} {cs : List Cho} {k : Nat} (h : ch18 cs k = true) : chAt r p cs k = false := chAt_no (by
  unfold ch18 at h; revert h
  generalize (decide (0 < (k : Int)) && decide ((cho cs k).move ≤ (cho cs (((k : Int) - 1).toNat)).move)) = a
  generalize betw (cho cs k).games 1 1000000 = b
  generalize betw (cho cs k).score 0 (2 * (cho cs k).games) = c
  cases a <;> cases b <;> cases c <;> simp)
theorem chAt_21 {r : Rul} {p : Pos} {cs : List Cho} {k : Nat} (h1 : ¬ (make r p (cho cs k).move).2 = 0) : chAt r p cs k = false := chAt_no (by rw [decide_eq_false h1]; simp)
theorem chAt_all {r : Rul} {p : Pos} {cs : List Cho} {k : Nat} (h : ch18 cs k = false) (h1 : (make r p (cho cs k).move).2 = 0) : chAt r p cs k = true := chAt_yes (by
  rw [decide_eq_true h1]
  unfold ch18 at h; revert h
  generalize (decide (0 < (k : Int)) && decide ((cho cs k).move ≤ (cho cs (((k : Int) - 1).toNat)).move)) = a
  generalize betw (cho cs k).games 1 1000000 = b
  generalize betw (cho cs k).score 0 (2 * (cho cs k).games) = c
  cases a <;> cases b <;> cases c <;> simp)
theorem prev_lt0 (k : Nat) (c : Int) : (decide (k = 0) || decide (c < 0)) = !(decide (0 < (k : Int)) && decide (0 ≤ c)) := prev_lt k c 0
theorem entAt_eq (r : Rul) (es : List Ent) (k : Nat) : entAt r es k = !((decide (0 < (k : Int)) && decide (0 ≤ cmpL (ent es (((k : Int) - 1).toNat)).pits (ent es k).pits)) || !okE r (ent es k)) := by
  unfold entAt
  rw [prev_lt0, pred_nat]
  simp only [Bool.not_or, Bool.not_not]
theorem entAt_yes {r : Rul} {es : List Ent} {k : Nat} (h : ((decide (0 < (k : Int)) && decide (0 ≤ cmpL (ent es (((k : Int) - 1).toNat)).pits (ent es k).pits)) || !okE r (ent es k)) = false) : entAt r es k = true := by rw [entAt_eq, h]; rfl
theorem entAt_no {r : Rul} {es : List Ent} {k : Nat} (h : ((decide (0 < (k : Int)) && decide (0 ≤ cmpL (ent es (((k : Int) - 1).toNat)).pits (ent es k).pits)) || !okE r (ent es k)) = true) : entAt r es k = false := by rw [entAt_eq, h]; rfl
theorem entAt_yes' {r : Rul} {es : List Ent} {k : Nat} (h : (!okE r (ent es k) || (decide (0 < (k : Int)) && decide (0 ≤ cmpL (ent es (((k : Int) - 1).toNat)).pits (ent es k).pits))) = false) : entAt r es k = true := entAt_yes (by rw [Bool.or_comm]; exact h)
theorem entAt_no' {r : Rul} {es : List Ent} {k : Nat} (h : (!okE r (ent es k) || (decide (0 < (k : Int)) && decide (0 ≤ cmpL (ent es (((k : Int) - 1).toNat)).pits (ent es k).pits))) = true) : entAt r es k = false := entAt_no (by rw [Bool.or_comm]; exact h)
theorem okE_p {r : Rul} {e : Ent} (h : okP r (posE e.pits) = false ∨ e.choices.length = 0) : okE r e = false := by
  unfold okE
  rcases h with h | h
  · rw [h]; rfl
  · rw [h]; simp
theorem okE_cs {r : Rul} {e : Ent} (h1 : okP r (posE e.pits) = true) (h2 : e.choices.length ≠ 0) : okE r e = okCs r (posE e.pits) e.choices := by
  unfold okE; rw [h1, decide_eq_true (by omega)]; simp
theorem okB_r {b : Boo} (h : okR b.rules = false ∨ 200 < b.entries.length) : okB b = false := by
  unfold okB
  rcases h with h | h
  · rw [h]; rfl
  · rw [decide_eq_false (by omega)]; simp
theorem okB_es {b : Boo} (h1 : okR b.rules = true) (h2 : b.entries.length ≤ 200) : okB b = (List.range b.entries.length).all (entAt b.rules b.entries) := by
  unfold okB; rw [h1, decide_eq_true h2]; simp
end Go.Proofs.YtjklnidbndopiaaGreatDoor.M
namespace Go.Proofs.YtjklnidbndopiaaGreatDoor
open Go.RowKit
def addO : Value → Nat → Value
  | .pointer (some ⟨b, o, none⟩), k => .pointer (some ⟨b, o + k, none⟩)
  | v, _ => v
theorem flag_get {r : M.Rul} {y : List UInt8} (h : y ∈ M.fNames) :
    [Value.int .i64 r.pits, .int .i64 r.seeds, .bool r.stores, .bool r.skip, .bool r.relay, .bool r.feed, .bool r.again, .int .i64 r.capture, .int .i64 r.slam][0 + M.flagIx y]? = some (.bool (M.flagB r y)) := by
  simp only [M.fNames, List.mem_cons, List.not_mem_nil, or_false] at h
  rcases h with rfl | rfl | rfl | rfl | rfl <;> rfl
instance {n : Int} : LenB (M.capName n) 9 := ⟨M.capName_len n⟩
instance {n : Int} : LenB (M.slamName n) 7 := ⟨M.slamName_len n⟩
instance {r : M.Rul} : LenB (M.rulesT r) 155 := ⟨M.rulesT_len r⟩
instance {a b c : Int} : LenB (M.recLine a b c) 66 := ⟨M.recLine_len a b c⟩
def ownsRowS (w : World) (e : TypeId) (v : Value) (n : Nat) (xs : List Value) : Prop :=
  xs.length = n ∧ ∃ g cap cur fz, v = .slice (some ⟨g, 0, none⟩) n cap ∧ w.heap[g]? = some (.cells cur e fz) ∧ (fz.2 = 0 ∨ cap ≤ fz.1) ∧ n ≤ cap ∧ cap ≤ maxLen ∧ cur.size = cap ∧ cur.toList.take n = xs
theorem ownsRowS.cell {w : World} {e : TypeId} {g n cap : Nat} {xs : List Value} (h : ownsRowS w e (.slice (some ⟨g, 0, none⟩) n cap) n xs) (j : Nat) (u : Value) (hu : xs[j]? = some u) : w.cell? ⟨g, j, none⟩ = some u := by
  obtain ⟨_, g', cap', cur, fz, hv, hg, _, _, _, _, ht⟩ := h
  injection hv with hv _ _
  injection hv with hv
  injection hv with hv _ _
  subst hv
  rw [← ht, List.getElem?_take] at hu
  split at hu
  · simp [World.cell?, hg]; simpa using hu
  · cases hu
section
variable {P : Program}
variable {n lo : Nat} {B : List Nat} {l : Fr} {os : List Own} {u : World} {dst : Option Tmp} {ty : TypeId} {pos : String} {af : Array Edge} {gd : Option (Nat × Bool)}
end
end Go.Proofs.YtjklnidbndopiaaGreatDoor
namespace Go.Proofs.YtjklnidbndopiaaGreatDoor.M
def chT (c : Cho) : List UInt8 := [32] ++ dec c.move ++ [47] ++ dec c.games ++ [47] ++ dec c.score
def chsN (cs : List Cho) : Nat → List UInt8
  | 0 => []
  | k + 1 => chsN cs k ++ chT (cho cs k)
def entT (e : Ent) : List UInt8 := (joinT e.pits ++ chsN e.choices e.choices.length) ++ [10]
def booN (r : Rul) (es : List Ent) : Nat → List UInt8
  | 0 => rulesT r ++ [10]
  | k + 1 => booN r es k ++ entT (ent es k)
def booT (b : Boo) : List UInt8 := booN b.rules b.entries b.entries.length
def booTR (b : Boo) : List UInt8 := if okB b = true then booT b else []
theorem booTR_y {b : Boo} (h : okB b = true) : booTR b = booT b := if_pos h
theorem booTR_n {b : Boo} (h : okB b = false) : booTR b = [] := if_neg (by simp [h])
theorem chT_len (c : Cho) : (chT c).length ≤ 66 := by
  have a := dec_len c.move; have b := dec_len c.games; have d := dec_len c.score
  unfold chT; simp only [List.length_append, List.length_cons, List.length_nil]; omega
theorem chsN_len (cs : List Cho) : ∀ k : Nat, (chsN cs k).length ≤ 66 * k
  | 0 => Nat.le_refl _
  | k + 1 => by
    have a := chsN_len cs k; have b := chT_len (cho cs k)
    rw [chsN, List.length_append]; omega
structure EntB (e : Ent) : Prop where
  p : e.pits.length ≤ 16
  g : Rng e.pits
  c : e.choices.length ≤ 8
  a : allOk e.pits = true
  ne : e.pits ≠ []
  v : ∀ x ∈ e.choices, 0 ≤ x.move ∧ x.move ≤ 7 ∧ 1 ≤ x.games ∧ x.games ≤ 1000000 ∧ 0 ≤ x.score ∧ x.score ≤ 2000000
theorem okE_b {r : Rul} {e : Ent} (h : okE r e = true) : EntB e := by
  unfold okE at h
  simp only [Bool.and_eq_true, decide_eq_true_eq] at h
  obtain ⟨⟨h1, h2⟩, h3⟩ := h
  obtain ⟨g1, g2, g3, g4, g5, g6, g7⟩ := okP_bd h1
  unfold okCs at h3
  rw [List.all_eq_true] at h3
  have hc : ∀ k : Nat, k < e.choices.length → (k = 0 ∨ (cho e.choices (k - 1)).move < (cho e.choices k).move) ∧ (0 ≤ (cho e.choices k).move ∧ (cho e.choices k).move ≤ 7 ∧ 1 ≤ (cho e.choices k).games ∧ (cho e.choices k).games ≤ 1000000 ∧ 0 ≤ (cho e.choices k).score ∧ (cho e.choices k).score ≤ 2000000) := fun k hk => by
    have h4 := h3 k (List.mem_range.2 hk)
    unfold chAt at h4
    simp only [Bool.and_eq_true, Bool.or_eq_true, decide_eq_true_eq, betw_iff] at h4
    obtain ⟨⟨⟨a, b⟩, c⟩, d⟩ := h4
    obtain ⟨_, m0, m1, _⟩ := make_ok b
    exact ⟨a, by omega⟩
  have hk : ∀ k : Nat, k < e.choices.length → (k : Int) ≤ (cho e.choices k).move := fun k => by
    induction k with
    | zero => intro h; have := (hc 0 h).2.1; omega
    | succ k ih =>
      intro h
      have h1 := ih (by omega)
      have h2 := (hc (k + 1) h).1
      rw [Nat.add_sub_cancel] at h2
      omega
  have hp : (e.pits.length : Int) = 2 * r.pits := g3
  refine ⟨by omega, Rng.ok g5, ?_, g5, fun e0 => by rw [e0] at hp; simp at hp; omega, fun x hx => ?_⟩
  · rcases Nat.lt_or_ge 8 e.choices.length with h | h
    · have a := hk (e.choices.length - 1) (by omega)
      have b := (hc (e.choices.length - 1) (by omega)).2.2.1
      omega
    · exact h
  · obtain ⟨k, hk, rfl⟩ := List.getElem_of_mem hx
    have h5 := (hc k hk).2
    have e5 : cho e.choices k = e.choices[k] := by simp [cho, List.getD, hk]
    rw [e5] at h5
    exact h5
theorem okB_all9 {b : Boo} (h : okB b = true) : okR b.rules = true ∧ b.entries.length ≤ 200 ∧ ∀ x ∈ b.entries, EntB x := by
  unfold okB at h
  simp only [Bool.and_eq_true, decide_eq_true_eq] at h
  obtain ⟨⟨h1, h2⟩, h3⟩ := h
  refine ⟨h1, h2, fun x hx => ?_⟩
  obtain ⟨k, hk, rfl⟩ := List.getElem_of_mem hx
  rw [List.all_eq_true] at h3
  have h4 := h3 k (List.mem_range.2 hk)
  unfold entAt at h4
  rw [Bool.and_eq_true] at h4
  have e5 : ent b.entries k = b.entries[k] := by simp [ent, List.getD, hk]
  rw [e5] at h4
  exact okE_b h4.2
theorem entT_len {e : Ent} (h : EntB e) : (entT e).length ≤ 881 := by
  have a := joinT_len e.pits; have b := chsN_len e.choices e.choices.length; have c := h.p; have d := h.c
  unfold entT; simp only [List.length_append, List.length_cons, List.length_nil]; omega
theorem booN_len {b : Boo} (h : okB b = true) : ∀ k : Nat, k ≤ b.entries.length → (booN b.rules b.entries k).length ≤ 156 + 881 * k
  | 0, _ => by have := rulesT_len b.rules; rw [booN]; simp only [List.length_append, List.length_cons, List.length_nil]; omega
  | k + 1, hk => by
    have a := booN_len h k (by omega)
    have c := entT_len ((okB_all9 h).2.2 _ (ent_mem (es := b.entries) (k := k) (by omega)))
    rw [booN, List.length_append]; omega
theorem chs_step {A out : List UInt8} {cs : List Cho} {k : Nat} {z : Cho} (h : out = A ++ chsN cs k) (hz : cs[k]? = some z) : out ++ ([32] ++ dec z.move ++ [47] ++ dec z.games ++ [47] ++ dec z.score) = A ++ chsN cs (k + 1) := by
  have e : cho cs k = z := by unfold cho; rw [List.getD_eq_getElem?_getD, hz]; rfl
  rw [chsN, e, h, List.append_assoc]; rfl
theorem chs_0 (A : List UInt8) (cs : List Cho) : A = A ++ chsN cs 0 := (List.append_nil A).symm
theorem boo_step {r : Rul} {es : List Ent} {k j : Nat} {y : Ent} {out : List UInt8} (hy : es[k]? = some y) (h : out = (booN r es k ++ joinT y.pits) ++ chsN y.choices j) (h1 : y.choices.length ≤ j) (h2 : j ≤ y.choices.length) : out ++ [10] = booN r es (k + 1) := by
  have e : ent es k = y := by unfold ent; rw [List.getD_eq_getElem?_getD, hy]; rfl
  rw [booN, e, h, Nat.le_antisymm h2 h1, entT]
  simp only [List.append_assoc]
theorem boo_in {b : Boo} {k j : Nat} {y : Ent} (h : okB b = true) (hy : b.entries[k]? = some y) (hj : j ≤ y.choices.length) : ((booN b.rules b.entries k ++ joinT y.pits) ++ chsN y.choices j).length ≤ 200000 := by
  have hk : k < b.entries.length := (List.getElem?_eq_some_iff.1 hy).1
  have a := booN_len h k (by omega)
  have e := (okB_all9 h).2.2 y (List.mem_of_getElem? hy)
  have c := joinT_len y.pits; have d := chsN_len y.choices j; have f := e.p; have g := e.c; have i := (okB_all9 h).2.1
  simp only [List.length_append]; omega
theorem boo_e {b : Boo} {k : Nat} {out : List UInt8} (h : out = booN b.rules b.entries k) (h1 : b.entries.length ≤ k) (h2 : k ≤ b.entries.length) : out = booT b := by rw [h, Nat.le_antisymm h2 h1]; rfl
end Go.Proofs.YtjklnidbndopiaaGreatDoor.M
namespace Go.Proofs.YtjklnidbndopiaaGreatDoor
open Go.RowKit
section
variable {P : Program} {n lo : Nat} {B : List Nat} {l : Fr} {os : List Own} {u : World} {dst : Option Tmp} {ty : TypeId} {pos : String} {af : Array Edge} {gd : Option (Nat × Bool)} {x y z : Operand} {t : TypeId} {a : List UInt8} {i j : Nat} {k k' : IntKind}
theorem sB_size (a : List UInt8) : (sB a).size = a.length := by simp [sB, ByteArray.size]
theorem sB_extract (a : List UInt8) (i j : Nat) : (sB a).extract i j = sB ((a.drop i).take (j - i)) := ByteArray.extract_mk a i j
theorem p_takeS (hu : P.underlying t = some .string) (hx : opd l x = some (.string (sB a))) (hy : opd l y = some (.int k i)) (h : i ≤ a.length) : OpP P n l ⟨dst, .slice t x none (some y) none, ty, pos, af, gd⟩ (.string (sB (a.take i))) := fun c w ha => by
  have := run_slice_string_h (P := P) w t (sB a) hu k i (by omega) (by rw [sB_size]; omega)
  rw [sB_extract] at this
  simp only [Int.toNat_natCast, Nat.sub_zero, List.drop_zero] at this
  simp only [execOp, Option.map_none, Option.map_some, ha.eval hx, ha.eval hy, Sem.run_bind, run_sliceAt_string _ t _ _ _ _ hu, this, Result.andThen_ok, Sem.run_pure]
theorem p_dropS (hu : P.underlying t = some .string) (hx : opd l x = some (.string (sB a))) (hy : opd l y = some (.int k i)) (h : i ≤ a.length) : OpP P n l ⟨dst, .slice t x (some y) none none, ty, pos, af, gd⟩ (.string (sB (a.drop i))) := fun c w ha => by
  have := run_slice_string_l (P := P) w t (sB a) hu k i (by omega) (by rw [sB_size]; omega)
  rw [sB_extract, sB_size] at this
  simp only [Int.toNat_natCast] at this
  rw [List.take_of_length_le (by simp)] at this
  simp only [execOp, Option.map_none, Option.map_some, ha.eval hx, ha.eval hy, Sem.run_bind, run_sliceAt_string _ t _ _ _ _ hu, this, Result.andThen_ok, Sem.run_pure]
theorem p_midS (hu : P.underlying t = some .string) (hx : opd l x = some (.string (sB a))) (hy : opd l y = some (.int k i)) (hz : opd l z = some (.int k' j)) (h1 : i ≤ j) (h2 : j ≤ a.length) : OpP P n l ⟨dst, .slice t x (some y) (some z) none, ty, pos, af, gd⟩ (.string (sB ((a.drop i).take (j - i)))) := fun c w ha => by
  have := run_slice_string (P := P) w t (sB a) k k' i j hu (by omega) (by omega) (by rw [sB_size]; omega)
  rw [sB_extract] at this
  simp only [Int.toNat_natCast] at this
  simp only [execOp, Option.map_none, Option.map_some, ha.eval hx, ha.eval hy, ha.eval hz, Sem.run_bind, run_sliceAt_string _ t _ _ _ _ hu, this, Result.andThen_ok, Sem.run_pure]
theorem p_byteS (hu : P.underlying t = some .string) (hx : opd l x = some (.string (sB a))) (hy : opd l y = some (.int k i)) (h : i < a.length) : OpP P n l ⟨dst, .index t x y, ty, pos, af, gd⟩ (.int .u8 (M.bat a i)) := fun c w ha => by
  have := run_index_string (P := P) w t (sB a) k i hu
  rw [dif_pos ⟨by omega, by rw [sB_size]; omega⟩] at this
  have e : ((sB a)[(i : Int).toNat]'(by rw [sB_size]; omega)) = a[i] := rfl
  have e2 : M.bat a i = (a[i].toNat : Int) := by simp [M.bat, List.getD, h]
  simp only [execOp, ha.eval hx, ha.eval hy, Sem.run_bind, this, Result.andThen_ok, Sem.run_pure]
  rw [e2]; rfl
end
instance {a : List UInt8} {k i : Nat} [h : LenB a k] : LenB (a.take i) k := ⟨by rw [List.length_take]; have := h.h; omega⟩
instance {a : List UInt8} {k i : Nat} [h : LenB a k] : LenB (a.drop i) k := ⟨by rw [List.length_drop]; have := h.h; omega⟩
section
variable {P : Program} {n : Nat} {l : Fr} {dst : Option Tmp} {ty : TypeId} {pos : String} {af : Array Edge} {gd : Option (Nat × Bool)}
theorem run_equalIn_pn (d : Nat) {t e : TypeId} (hu : P.underlying t = some (.pointer e)) (p : Option Addr) (w : World) : (Op.equalIn (d + 1) t (.pointer p) (.pointer none)).run P w = .ok p.isNone w := by
  cases p <;> simp [Op.equalIn, run_underlying hu]
theorem p_eqlP {x y : Operand} {t t' e : TypeId} {p : Option Addr} (hu : P.underlying t = some (.pointer e)) (h1 : opd l x = some (.pointer p)) (h2 : opd l y = some (.pointer none)) : OpP P n l ⟨dst, .binOp .eql t x y t', ty, pos, af, gd⟩ (.bool p.isNone) := fun a w ha => by
  simp [execOp, eqGuard, binOp, ha.eval h1, ha.eval h2, Op.equal, Op.maxDepth, run_equalIn_pn 9999 hu]
theorem p_eqlP0 {x y : Operand} {t t' e : TypeId} (hu : P.underlying t = some (.pointer e)) (h1 : opd l x = some (.pointer none)) (h2 : opd l y = some (.pointer none)) : OpP P n l ⟨dst, .binOp .eql t x y t', ty, pos, af, gd⟩ (.bool true) := p_eqlP hu h1 h2
theorem p_eqlP1 {x y : Operand} {t t' e : TypeId} {p : Addr} (hu : P.underlying t = some (.pointer e)) (h1 : opd l x = some (.pointer (some p))) (h2 : opd l y = some (.pointer none)) : OpP P n l ⟨dst, .binOp .eql t x y t', ty, pos, af, gd⟩ (.bool false) := p_eqlP hu h1 h2
end
end Go.Proofs.YtjklnidbndopiaaGreatDoor
namespace Go.Proofs.YtjklnidbndopiaaGreatDoor.M
theorem named_0 {l : List (List UInt8)} {t : List UInt8} (h : (namedBy l t).2 = 0) : ¬ idx l t < 0 ∧ (namedBy l t).1 = idx l t := by
  unfold namedBy at h ⊢
  by_cases h1 : idx l t < 0
  · rw [if_pos h1] at h; exact absurd (show (3 : Int) = 0 from h) (by decide)
  · rw [if_neg h1]; exact ⟨h1, rfl⟩
theorem named_3 {l : List (List UInt8)} {t : List UInt8} (h : ¬ (namedBy l t).2 = 0) : idx l t < 0 := by
  unfold namedBy at h
  by_cases h1 : idx l t < 0
  · exact h1
  · rw [if_neg h1] at h; exact absurd rfl h
theorem valP_c0 {y t : List UInt8} (hy : y = captT) (h : (namedBy capNames t).2 = 0) : valP y t = ((namedBy capNames t).1, 0) := by
  subst hy; obtain ⟨a, b⟩ := named_0 h; rw [valP_capt, if_neg a, b]
theorem valP_c3 {y t : List UInt8} (hy : y = captT) (h : ¬ (namedBy capNames t).2 = 0) : valP y t = (0, 4) := by
  subst hy; rw [valP_capt, if_pos (named_3 h)]
theorem valP_s0 {y t : List UInt8} (hy : y = slamT) (h : (namedBy slamNames t).2 = 0) : valP y t = ((namedBy slamNames t).1, 0) := by
  subst hy; obtain ⟨a, b⟩ := named_0 h; rw [valP_slam, if_neg a, b]
theorem valP_s3 {y t : List UInt8} (hy : y = slamT) (h : ¬ (namedBy slamNames t).2 = 0) : valP y t = (0, 4) := by
  subst hy; rw [valP_slam, if_pos (named_3 h)]
theorem valP_n3 {y t : List UInt8} (h1 : ¬ y = captT) (h2 : ¬ y = slamT) (h3 : (num t).2 = false) : valP y t = (0, 3) := by
  unfold valP; rw [if_neg h1, if_neg h2, if_pos h3]
theorem valP_n4 {y t : List UInt8} (h1 : ¬ y = captT) (h2 : ¬ y = slamT) (h3 : (num t).2 = true) (h4 : y = pitsT ∧ betw (num t).1 2 8 = false ∨ y = seedsT ∧ betw (num t).1 1 6 = false) : valP y t = (0, 4) := by
  unfold valP; rw [if_neg h1, if_neg h2, if_neg (by rw [h3]; decide), if_pos h4]
theorem valP_n0 {y t : List UInt8} (h1 : ¬ y = captT) (h2 : ¬ y = slamT) (h3 : (num t).2 = true) (h4 : ¬ (y = pitsT ∧ betw (num t).1 2 8 = false ∨ y = seedsT ∧ betw (num t).1 1 6 = false)) : valP y t = ((num t).1, 0) := by
  unfold valP; rw [if_neg h1, if_neg h2, if_neg (by rw [h3]; decide), if_neg h4]
theorem valR_y {r : Rul} {y t : List UInt8} {n : Int} (h : valP y t = (n, 0)) : valR r y t = setNum r y n := by unfold valR; rw [h, if_pos rfl]
theorem valR_n {r : Rul} {y t : List UInt8} {n k : Int} (h : valP y t = (n, k)) (hk : k ≠ 0) : valR r y t = r := by unfold valR; rw [h, if_neg hk]
section
variable {x : Rdr} {a : Int} {w : List UInt8}
theorem rdW_1 (h : (cutS w [61]).2.2 = true ∧ isNum (cutS w [61]).1 = false ∨ (cutS w [61]).2.2 = false ∧ isFlg (cutS w [61]).1 = false) : rdW x a w = ⟨x.rules, x.problems ++ [⟨1, a, w⟩], x.given⟩ := by
  unfold rdW rdU; rw [if_pos h]
theorem rdW_2 (h1 : ¬ ((cutS w [61]).2.2 = true ∧ isNum (cutS w [61]).1 = false)) (h2 : ¬ ((cutS w [61]).2.2 = false ∧ isFlg (cutS w [61]).1 = false)) (hm : mhas x.given (cutS w [61]).1 = true) : rdW x a w = ⟨x.rules, x.problems ++ [⟨2, a, w⟩], x.given⟩ := by
  unfold rdW rdU; rw [if_neg (fun h => h.elim h1 h2), if_pos hm]
theorem rdW_n {k : Int} (he : (cutS w [61]).2.2 = true) (hn : isNum (cutS w [61]).1 = true) (hm : mhas x.given (cutS w [61]).1 = false) (hk : (valP (cutS w [61]).1 (cutS w [61]).2.1).2 = k) (h0 : ¬ k = 0) : rdW x a w = ⟨valR x.rules (cutS w [61]).1 (cutS w [61]).2.1, x.problems ++ [⟨k, a, w⟩], mput x.given (cutS w [61]).1 a⟩ := by
  subst hk; unfold rdW rdU; rw [if_neg (by rw [he, hn]; simp), if_neg (by rw [hm]; decide), if_pos he, if_neg h0]
theorem rdW_z (he : (cutS w [61]).2.2 = true) (hn : isNum (cutS w [61]).1 = true) (hm : mhas x.given (cutS w [61]).1 = false) (h0 : (valP (cutS w [61]).1 (cutS w [61]).2.1).2 = 0) : rdW x a w = ⟨valR x.rules (cutS w [61]).1 (cutS w [61]).2.1, x.problems, mput x.given (cutS w [61]).1 a⟩ := by
  unfold rdW rdU; rw [if_neg (by rw [he, hn]; simp), if_neg (by rw [hm]; decide), if_pos he, if_pos h0]
theorem rdW_f (he : (cutS w [61]).2.2 = false) (hf : isFlg (cutS w [61]).1 = true) (hm : mhas x.given (cutS w [61]).1 = false) : rdW x a w = ⟨setFlg x.rules (cutS w [61]).1, x.problems, mput x.given (cutS w [61]).1 a⟩ := by
  unfold rdW rdU; rw [if_neg (by rw [he, hf]; simp), if_neg (by rw [hm]; decide), if_neg (by rw [he]; decide)]
end
theorem misN_t {g : List (List UInt8 × Int)} {m : Int} {k : Nat} {y : List UInt8} {ps qs : List Prb} (h : qs = ps ++ misN g m k) (hY : pNames[k]? = some y) (hb : mhas g y = true) : qs = ps ++ misN g m (k + 1) := by
  rw [misN, wdn_get hY, if_pos hb, List.append_nil]; exact h
theorem misN_f {g : List (List UInt8 × Int)} {m : Int} {k : Nat} {y : List UInt8} {ps qs : List Prb} (h : qs = ps ++ misN g m k) (hY : pNames[k]? = some y) (hb : mhas g y = false) : qs ++ [⟨5, m, y⟩] = ps ++ misN g m (k + 1) := by
  rw [misN, wdn_get hY, if_neg (by rw [hb]; decide), h, List.append_assoc]
theorem mis_t {g : List (List UInt8 × Int)} {m : Int} {k : Nat} {ps qs : List Prb} (h : qs = ps ++ misN g m k) (hk : k = 2) (h1 : mhas g agaiT = true) (h2 : mhas g storT = false) : ps ++ mis g m = qs ++ [⟨6, mval g agaiT, agaiT⟩] := by
  subst hk; unfold mis misE; rw [if_pos ⟨h1, h2⟩, h, List.append_assoc]
theorem mis_f {g : List (List UInt8 × Int)} {m : Int} {k : Nat} {ps qs : List Prb} (h : qs = ps ++ misN g m k) (hk : k = 2) (h1 : ¬ (mhas g agaiT = true ∧ mhas g storT = false)) : ps ++ mis g m = qs := by
  subst hk; unfold mis misE; rw [if_neg h1, List.append_nil, h]
theorem mis_len (g : List (List UInt8 × Int)) (m : Int) : (mis g m).length ≤ 3 := by
  have := misN_len g m 2
  unfold mis misE
  rw [List.length_append]
  split <;> simp only [List.length_cons, List.length_nil] <;> omega
theorem PtI.word' {s y : List UInt8} {j : Nat} {a : Int} {k : Nat} (h : PtI s j a k) (hy : (split 32 s)[j]? = some y) (hne : y ≠ []) : PtI s (j + 1) (a + ((y.length : Int) + 1)) (k + 1) ∧ (wds s)[k]? = some y ∧ nth (pls s) k = a := by
  rw [← Int.add_assoc]; exact h.word hy hne
theorem PtI.blank' {s y : List UInt8} {j : Nat} {a : Int} {k : Nat} (h : PtI s j a k) (hy : (split 32 s)[j]? = some y) (he : y = []) : PtI s (j + 1) (a + ((y.length : Int) + 1)) k := by
  subst he; rw [← Int.add_assoc]; exact h.blank hy
theorem rel_done {s : List UInt8} {x : Rdr} {j k : Nat} {a : Int} (h : RelC x (chkN s k)) (hP : PtI s j a k) (hj : (split 32 s).length ≤ j) (hk : k ≤ (wds s).length) : RelC x (chkA s) := by
  have := hP.done hj hk; subst this; exact h
theorem chkT_5 {s : List UInt8} (h : 200 < s.length) : chkT s = (Rul.zero, [], 5) := by unfold chkT; rw [if_pos h]
theorem chkT_p {s : List UInt8} {x : Rdr} (h : ¬ 200 < s.length) (hR : RelC x (chkA s)) (hp : 0 < (x.problems ++ mis x.given (s.length : Int)).length) : chkT s = (Rul.zero, x.problems ++ mis x.given (s.length : Int), 0) := by
  rw [hR.missing] at hp ⊢
  unfold chkT; rw [if_neg h, if_neg (by intro e; rw [e] at hp; simp at hp)]
theorem chkT_n {s : List UInt8} {x : Rdr} (h : ¬ 200 < s.length) (hR : RelC x (chkA s)) (hp : ¬ 0 < (x.problems ++ mis x.given (s.length : Int)).length) : chkT s = (x.rules, x.problems ++ mis x.given (s.length : Int), 0) := by
  rw [hR.missing] at hp ⊢
  have e : chkO s = [] := List.length_eq_zero_iff.1 (by omega)
  unfold chkT; rw [if_neg h, if_pos e, e, hR.r]; rfl
theorem chkT_O {s : List UInt8} (h : ¬ 200 < s.length) (hp : 0 < (chkO s).length) : chkT s = (Rul.zero, chkO s, 0) := by
  unfold chkT; rw [if_neg h, if_neg (by intro e; rw [e] at hp; simp at hp)]
theorem chkT_R {s : List UInt8} (h : ¬ 200 < s.length) (hp : ¬ 0 < (chkO s).length) : chkT s = (chkR s, [], 0) := by
  unfold chkT; rw [if_neg h, if_pos (List.length_eq_zero_iff.1 (by omega))]
theorem chkT_len (s : List UInt8) : (chkT s).2.1.length ≤ s.length + 4 := by
  have := chkO_len s
  unfold chkT
  split
  · show ([] : List Prb).length ≤ _; simp
  · split
    · show ([] : List Prb).length ≤ _; simp
    · exact this
theorem RelC.plen {x : Rdr} {s : List UInt8} {k : Nat} (h : RelC x (chkN s k)) : x.problems.length ≤ k := by rw [h.p]; exact (chkN_len s k).2.2
end Go.Proofs.YtjklnidbndopiaaGreatDoor.M
namespace Go.Proofs.YtjklnidbndopiaaGreatDoor
open Go.RowKit
section
variable {P : Program} {n lo : Nat} {B : List Nat} {Q : Exit → Act → World → Prop} {cs : List Code} {l : Fr} {os os' : List Own} {u : World}
theorem giveL (ks : List Nat) {w w₀ : World} {bs : List Own} {fr : List Own} {m : Nat} (hb : Bw w₀ bs) (x : Up w₀.heap.size (offW w₀ (bs.flatMap (·.fp))) u) (hp : PP os ks os') (hf : NL (os'.take m) fr)
    (hw : St w₀.heap.size (bs.flatMap (·.fp)) u w os) : St w₀.heap.size (bs.flatMap (·.fp)) u w (fr ++ [anyO ((os'.drop m).flatMap (·.fp))]) := by
  have hpm := hp.perm
  have e : os' = fr ++ os'.drop m := by rw [← hf.eq, List.take_append_drop]
  exact hw.conv (fun o ho => by
    rcases List.mem_append.1 ho with ho | ho
    · exact hw.prs o (hpm.mem_iff.2 (by rw [e]; exact List.mem_append_left _ ho))
    · simp at ho; subst ho; trivial) (by
    have := hpm.symm.flatMap_right (fun o : Own => o.fp)
    rw [e, List.flatMap_append] at this
    rw [List.flatMap_append]
    simpa [anyO] using this)
theorem zrbE (ks : List Nat) {fn : Func} {R : Value → List Own → Prop} {w₀ : World} {bs : List Own} {fr : List Own} {m : Nat} (hb : Bw w₀ bs) (x : Up w₀.heap.size (offW w₀ (bs.flatMap (·.fp))) u) (h : R (.tuple #[]) fr)
    (hr : fn.results = #[] := by rfl) (hm : ks.length = m := by rfl) (hp : PP os ks os' := by exact pp_) (hf : NL (os'.take m) fr := by exact nl) :
    Js P n w₀.heap.size (bs.flatMap (·.fp)) (bodyPost P fn (RB w₀ bs R)) [] l os u := Js.end_ fun a w ha hw =>
  ⟨ha.dfr, .tuple #[], by unfold results; rw [hr]; simp, _, fr, _, rfl, h, (giveL ks hb x hp hf hw).giveBack hb x⟩
end
section
variable {P : Program} {n lo : Nat} {B : List Nat} {Q : Exit → Act → World → Prop} {cs : List Code} {K : Act → World → Prop} {ops : Array Oper} {rest : List Oper} {l : Fr} {os os' os1 : List Own} {u : World} {ty : TypeId} {pos : String} {af : Array Edge} {gd : Option (Nat × Bool)} {dst : Option Tmp} {v : Value} {d : Nat}
end
theorem txs_get' {xs : List (List UInt8)} {k : Nat} {y : List UInt8} (h : xs[k]? = some y) : (txs_ xs)[0 + k * 1]? = some (.string (sB y)) := by rw [Nat.zero_add, Nat.mul_one]; simp [txs_, h]
end Go.Proofs.YtjklnidbndopiaaGreatDoor
namespace Go.Proofs.YtjklnidbndopiaaGreatDoor.M
theorem rel_at (s : List UInt8) : ∀ k : Nat, ∃ x, RelC x (chkN s k)
  | 0 => ⟨_, RelC.zero⟩
  | k + 1 => by obtain ⟨x, h⟩ := rel_at s k; exact ⟨_, h.step (nth (pls s) k) (wdn (wds s) k)⟩
theorem betw_nf {n a b : Int} (h : ¬ betw n a b = false) : a ≤ n ∧ n ≤ b := betw_iff.1 (by cases hb : betw n a b; exact absurd hb h; rfl)
theorem valP_rng {y t : List UInt8} {n : Int} (h : valP y t = (n, 0)) : (y = pitsT → 2 ≤ n ∧ n ≤ 8) ∧ (y = seedsT → 1 ≤ n ∧ n ≤ 6) ∧ (y = captT → 0 ≤ n ∧ n ≤ 3) ∧ (y = slamT → 0 ≤ n ∧ n ≤ 2) := by
  refine ⟨fun e => ?_, fun e => ?_, fun e => ?_, fun e => ?_⟩ <;> subst e
  · rw [valP_pits] at h
    split at h
    · injection h with _ h; exact absurd h (by decide)
    · split at h
      · injection h with _ h; exact absurd h (by decide)
      · rename_i hb; injection h with h _; rw [← h]; exact betw_nf hb
  · rw [valP_seeds] at h
    split at h
    · injection h with _ h; exact absurd h (by decide)
    · split at h
      · injection h with _ h; exact absurd h (by decide)
      · rename_i hb; injection h with h _; rw [← h]; exact betw_nf hb
  · rw [valP_capt] at h
    split at h
    · injection h with _ h; exact absurd h (by decide)
    · injection h with h _
      have := idx_bd capNames t
      rw [show (capNames.length : Int) = 4 from rfl] at this
      omega
  · rw [valP_slam] at h
    split at h
    · injection h with _ h; exact absurd h (by decide)
    · injection h with h _
      have := idx_bd slamNames t
      rw [show (slamNames.length : Int) = 3 from rfl] at this
      omega
theorem wrd_rng {w : List UInt8} {i n : Int} (h : wrd w = (i, n, 0)) : (i = 0 → 2 ≤ n ∧ n ≤ 8) ∧ (i = 1 → 1 ≤ n ∧ n ≤ 6) ∧ (i = 7 → 0 ≤ n ∧ n ≤ 3) ∧ (i = 8 → 0 ≤ n ∧ n ≤ 2) := by
  rw [wrd_P] at h
  generalize (cutS w [61]).1 = y at h
  generalize (cutS w [61]).2.1 = t at h
  generalize (cutS w [61]).2.2 = e at h
  cases hn : isNum y with
  | true =>
    obtain ⟨q1, q2, q3, q4⟩ := wrdP_num (t := t) hn
    cases e with
    | false => rw [q3] at h; injection h with _ h; injection h with _ h; exact absurd h (by decide)
    | true =>
      rw [q1] at h
      injection h with h1 h
      injection h with h2 h3
      have hr := valP_rng (y := y) (t := t) (n := n) (by rw [← h2, ← h3])
      rcases isNum_iff hn with rfl | rfl | rfl | rfl
      · have : i = 0 := h1.symm
        exact ⟨fun _ => hr.1 rfl, fun h => by omega, fun h => by omega, fun h => by omega⟩
      · have : i = 1 := h1.symm
        exact ⟨fun h => by omega, fun _ => hr.2.1 rfl, fun h => by omega, fun h => by omega⟩
      · have : i = 7 := h1.symm
        exact ⟨fun h => by omega, fun h => by omega, fun _ => hr.2.2.1 rfl, fun h => by omega⟩
      · have : i = 8 := h1.symm
        exact ⟨fun h => by omega, fun h => by omega, fun h => by omega, fun _ => hr.2.2.2 rfl⟩
  | false =>
    cases hf : isFlg y with
    | false => rw [wrdP_no hn hf] at h; injection h with _ h; injection h with _ h; exact absurd h (by decide)
    | true =>
      obtain ⟨q1, q2, q3, q4⟩ := wrdP_flg (t := t) hf
      cases e with
      | true => rw [q3] at h; injection h with _ h; injection h with _ h; exact absurd h (by decide)
      | false =>
        rw [q1] at h
        injection h with h1 _
        have : 2 ≤ flagIx y ∧ flagIx y ≤ 6 := by rcases isFlg_iff5 hf with rfl | rfl | rfl | rfl | rfl <;> decide
        exact ⟨fun h => by omega, fun h => by omega, fun h => by omega, fun h => by omega⟩
def RngV (v : List Int) (b : List Bool) : Prop := (blt b 0 = true → 2 ≤ nth v 0 ∧ nth v 0 ≤ 8) ∧ (blt b 1 = true → 1 ≤ nth v 1 ∧ nth v 1 ≤ 6) ∧ (0 ≤ nth v 7 ∧ nth v 7 ≤ 3) ∧ (0 ≤ nth v 8 ∧ nth v 8 ≤ 2)
theorem chkN_rng (s : List UInt8) : ∀ k : Nat, (chkN s k).out = [] → RngV (chkN s k).v (chkN s k).seen
  | 0, _ => (⟨fun h => absurd (show false = true from h) (by decide), fun h => absurd (show false = true from h) (by decide), by decide, by decide⟩ : RngV Chk.zero.v Chk.zero.seen)
  | k + 1, h => by
    obtain ⟨hl, hs, _⟩ := chkN_len s k
    have hb := wrd_bd (wdn (wds s) k)
    have ih := chkN_rng s k
    rw [chkN] at h ⊢
    generalize chkN s k = c at h hl hs ih ⊢
    have hr := @wrd_rng (wdn (wds s) k)
    generalize wdn (wds s) k = w at h hb hr ⊢
    unfold chkS at h ⊢
    split
    · rename_i h1; rw [if_pos h1] at h; simp at h
    · rename_i h1
      rw [if_neg h1] at h
      dsimp only at h ⊢
      have h0 : chkK c w = 0 := by
        by_cases h0 : chkK c w = 0
        · exact h0
        · rw [if_neg h0] at h; simp at h
      rw [if_pos h0] at h
      have hk : (wrd w).2.2 = 0 := by
        unfold chkK at h0
        split at h0
        · exact absurd h0 (by decide)
        · exact h0
      obtain ⟨r0, r1, r7, r8⟩ := hr (i := (wrd w).1) (n := (wrd w).2.1) (by rw [← hk])
      obtain ⟨i0, i1, i7, i8⟩ := ih h
      have hi : ∀ j : Nat, j < 9 → nth (setI c.v (wrd w).1 (wrd w).2.1) j = if (wrd w).1 = (j : Int) then (wrd w).2.1 else nth c.v j := fun j hj => by
        by_cases e : (wrd w).1 = (j : Int)
        · rw [if_pos e, e]
          have := nth_setI_eq (l := c.v) (k := (j : Int)) (n := (wrd w).2.1) (by rw [Int.toNat_natCast]; omega)
          rwa [Int.toNat_natCast] at this
        · rw [if_neg e, nth_setI (fun e2 => e e2.symm) hb.1]
      have hbs : ∀ j : Nat, j < 9 → blt (c.seen.set (wrd w).1.toNat true) j = true → (wrd w).1 = (j : Int) ∨ blt c.seen j = true := fun j hj h9 => by
        rw [blt_set (by omega)] at h9
        simp only [Bool.or_eq_true, decide_eq_true_eq] at h9
        rcases h9 with h9 | h9
        · left; omega
        · exact .inr h9
      refine ⟨fun h9 => ?_, fun h9 => ?_, ?_, ?_⟩
      · rw [hi 0 (by decide)]
        by_cases e : (wrd w).1 = ((0 : Nat) : Int)
        · rw [if_pos e]; exact r0 e
        · rw [if_neg e]; exact i0 ((hbs 0 (by decide) h9).resolve_left e)
      · rw [hi 1 (by decide)]
        by_cases e : (wrd w).1 = ((1 : Nat) : Int)
        · rw [if_pos e]; exact r1 e
        · rw [if_neg e]; exact i1 ((hbs 1 (by decide) h9).resolve_left e)
      · rw [hi 7 (by decide)]
        by_cases e : (wrd w).1 = ((7 : Nat) : Int)
        · rw [if_pos e]; exact r7 e
        · rw [if_neg e]; exact i7
      · rw [hi 8 (by decide)]
        by_cases e : (wrd w).1 = ((8 : Nat) : Int)
        · rw [if_pos e]; exact r8 e
        · rw [if_neg e]; exact i8
theorem chk_okR {s : List UInt8} (h : chkO s = []) : okR (chkR s) = true := by
  obtain ⟨x, hx⟩ := rel_at s (wds s).length
  have hr := chkN_rng s (wds s).length
  change RelC x (chkA s) at hx
  change (chkA s).out = [] → RngV (chkA s).v (chkA s).seen at hr
  unfold chkO at h
  obtain ⟨h1, h2⟩ := List.append_eq_nil_iff.1 h
  rw [chkM, chkM, chkM] at h1
  obtain ⟨h1, hb1⟩ := List.append_eq_nil_iff.1 h1
  obtain ⟨h1, hb0⟩ := List.append_eq_nil_iff.1 h1
  have b0 : blt (chkA s).seen 0 = true := by
    by_cases e : blt (chkA s).seen 0 = true
    · exact e
    · rw [if_neg e] at hb0; simp at hb0
  have b1 : blt (chkA s).seen 1 = true := by
    by_cases e : blt (chkA s).seen 1 = true
    · exact e
    · rw [if_neg e] at hb1; simp at hb1
  obtain ⟨r0, r1, r7, r8⟩ := hr h1
  have h6 : ¬ (nth (chkA s).v 6 = 1 ∧ nth (chkA s).v 2 = 0) := fun e => by rw [if_pos e] at h2; simp at h2
  refine okR_mk (r0 b0) (r1 b1) r7 r8 ?_
  by_cases e6 : nth (chkA s).v 6 = 1
  · have e2 : nth (chkA s).v 2 = 1 := by
      cases hb : blt (chkA s).seen 2 with
      | true => exact hx.f2 hb
      | false => exact absurd ⟨e6, hx.z 2 hb⟩ h6
    rw [decide_eq_true e2]; rfl
  · rw [decide_eq_false e6]; simp
theorem plc : ∀ (ws : List (List UInt8)) (a : Nat) (t : List UInt8), t.drop a = joinW 32 ws → a ≤ t.length → ∀ (k : Nat) (w : List UInt8) (p : Int), (ws.filter fun w => decide (w ≠ []))[k]? = some w → (plsW (a : Int) ws)[k]? = some p →
    (t.drop p.toNat).take w.length = w ∧ 0 ≤ p ∧ p + (w.length : Int) ≤ (t.length : Int)
  | [], _, _, _, _, k, w, p, h, _ => by simp at h
  | [u], a, t, ht, ha, k, w, p, h, hp => by
    have ht : t.drop a = u := ht
    have hl : u.length = t.length - a := by rw [← ht, List.length_drop]
    by_cases hu : u = []
    · subst hu; simp at h
    · rw [List.filter_cons_of_pos (by simpa using hu)] at h
      rw [plsW, if_neg hu] at hp
      cases k with
      | zero =>
        simp at h hp
        subst h; subst hp
        exact ⟨by rw [Int.toNat_natCast, ht, List.take_length], by omega, by omega⟩
      | succ k => simp at h
  | u :: v :: ws, a, t, ht, ha, k, w, p, h, hp => by
    have ht : t.drop a = u ++ 32 :: joinW 32 (v :: ws) := ht
    have hl := congrArg List.length ht
    rw [List.length_drop, List.length_append, List.length_cons] at hl
    have hd : t.drop (a + u.length + 1) = joinW 32 (v :: ws) := by
      rw [Nat.add_assoc, ← List.drop_drop, ht, show u.length + 1 = u.length + 1 from rfl, ← List.drop_drop, List.drop_left]; rfl
    by_cases hu : u = []
    · subst hu
      rw [List.filter_cons_of_neg (by simp)] at h
      rw [plsW, if_pos rfl] at hp
      exact plc (v :: ws) (a + 1) t hd (by simp at hl; omega) k w p h hp
    · rw [List.filter_cons_of_pos (by simpa using hu)] at h
      rw [plsW, if_neg hu] at hp
      cases k with
      | zero =>
        simp at h hp
        subst h; subst hp
        exact ⟨by rw [Int.toNat_natCast, ht, List.take_left], by omega, by omega⟩
      | succ k =>
        rw [List.getElem?_cons_succ] at h hp
        exact plc (v :: ws) (a + u.length + 1) t hd (by omega) k w p h (by rw [show ((a + u.length + 1 : Nat) : Int) = (a : Int) + (u.length : Int) + 1 by omega]; exact hp)
theorem place {s w : List UInt8} {k : Nat} (h : (wds s)[k]? = some w) : (s.drop (nth (pls s) k).toNat).take w.length = w ∧ 0 ≤ nth (pls s) k ∧ nth (pls s) k + (w.length : Int) ≤ (s.length : Int) := by
  have hk : k < (pls s).length := by rw [pls_len]; exact (List.getElem?_eq_some_iff.1 h).1
  exact plc (split 32 s) 0 s (by rw [joinW_split]; rfl) (Nat.zero_le _) k w _ h (by rw [nth_eq hk]; exact List.getElem?_eq_getElem hk)
def readR (s : List UInt8) : Rul × Bool := if (chkT s).2.2 = 0 ∧ (chkT s).2.1 = [] ∧ rulesTR (chkT s).1 = s then ((chkT s).1, true) else (Rul.zero, false)
theorem readR_y {s : List UInt8} (h1 : (chkT s).2.2 = 0) (h2 : (chkT s).2.1 = []) (h3 : rulesTR (chkT s).1 = s) : readR s = ((chkT s).1, true) := if_pos ⟨h1, h2, h3⟩
theorem readR_n {s : List UInt8} (h : ¬ ((chkT s).2.2 = 0 ∧ (chkT s).2.1 = [] ∧ rulesTR (chkT s).1 = s)) : readR s = (Rul.zero, false) := if_neg h
theorem readR_5 {s : List UInt8} (h : 200 < s.length) : readR s = (Rul.zero, false) := readR_n (by rw [chkT_5 h]; rintro ⟨h, _⟩; exact absurd (show (5 : Int) = 0 from h) (by decide))
theorem readR_p {s : List UInt8} (h : ¬ 200 < s.length) (h2 : chkO s ≠ []) : readR s = (Rul.zero, false) := readR_n (by rw [chkT_O h (by cases e : chkO s; exact absurd e h2; simp)]; rintro ⟨_, h, _⟩; exact h2 h)
theorem readR_t {s : List UInt8} (h : ¬ 200 < s.length) (h2 : chkO s = []) (h3 : rulesT (chkR s) = s) : readR s = (chkR s, true) := by
  have e := chkT_R h (by rw [h2]; simp)
  have := readR_y (s := s) (by rw [e]) (by rw [e]) (by rw [e]; dsimp only; rw [rulesTR_yes (chk_okR h2)]; exact h3)
  rw [this, e]
theorem readR_f {s : List UInt8} (h : ¬ 200 < s.length) (h2 : chkO s = []) (h3 : ¬ rulesT (chkR s) = s) : readR s = (Rul.zero, false) := by
  have e := chkT_R h (by rw [h2]; simp)
  exact readR_n (by rw [e]; dsimp only; rw [rulesTR_yes (chk_okR h2)]; rintro ⟨_, _, h⟩; exact h3 h)
def w3 (s : List UInt8) (i : Nat) : List UInt8 := (split 32 s).getD i []
def x2 (s : List UInt8) (i : Nat) : List UInt8 := (split 47 (w3 s 1)).getD i []
def w5 (s : List UInt8) : List UInt8 := w3 s 0 ++ [32] ++ w3 s 1 ++ [32] ++ w3 s 2
def d2 (n : Nat) : List UInt8 := if n < 10 then [UInt8.ofNat (48 + n)] else [UInt8.ofNat (48 + n / 10), UInt8.ofNat (48 + n % 10)]
theorem dec_d2 {n : Nat} (h : n < 100) : dec (n : Int) = d2 n := by
  rw [dec_in (by omega) (by omega), Lib.itoa_nonneg]
  unfold d2
  split
  · exact Lib.decDigits_one ‹_›
  · exact Lib.decDigits_two ‹_› h
theorem num_d2 : ∀ n : Fin 97, (¬ ((numT (d2 n)).length < 1 ∨ 18 < (numT (d2 n)).length)) ∧ digs (numT (d2 n)) = true ∧ numS (d2 n) = (n.val : Int) := by decide
theorem num_dec_small {n : Int} (h0 : 0 ≤ n) (h1 : n ≤ 96) : num (dec n) = (n, true) := by
  obtain ⟨m, rfl⟩ := Int.eq_ofNat_of_zero_le h0
  have hm : m < 97 := by omega
  obtain ⟨a, b, c⟩ := num_d2 ⟨m, hm⟩
  rw [dec_d2 (by omega)]
  rw [num_yes a b (by rw [c]; exact dec_d2 (by omega)), c]
def whole (s : List UInt8) : Bool := decide ((split 10 s).getLast? = some [])
def recL (s : List UInt8) : List (List UInt8) := if whole s = true then (split 10 s).dropLast else split 10 s
theorem whole_nil : whole [] = true := by decide
theorem recL_nil : recL [] = [] := by decide
theorem recL_more {s : List UInt8} (h : (cutS s [10]).2.2 = true) : recL s = (cutS s [10]).1 :: recL (cutS s [10]).2.1 ∧ whole s = whole (cutS s [10]).2.1 ∧ (cutS s [10]).2.1.length < s.length := by
  rcases cutS_one 10 s with ⟨_, h2, h3⟩ | ⟨h2, _⟩
  · have hne := split_ne 10 (cutS s [10]).2.1
    have hw : whole s = whole (cutS s [10]).2.1 := by
      unfold whole; rw [h2, List.getLast?_cons]
      cases e : split 10 (cutS s [10]).2.1 with
      | nil => exact absurd e hne
      | cons a l => rw [List.getLast?_eq_some_getLast (by simp : a :: l ≠ [])]; simp
    refine ⟨?_, hw, h3⟩
    unfold recL
    rw [hw, h2]
    split
    · rw [List.dropLast_cons_of_ne_nil hne]
    · rfl
  · rw [h] at h2; exact absurd h2 (by decide)
theorem recL_last {s : List UInt8} (h : (cutS s [10]).2.2 = false) (hne : s ≠ []) : recL s = [(cutS s [10]).1] ∧ whole s = false := by
  rcases cutS_one 10 s with ⟨h2, _⟩ | ⟨_, h2⟩
  · rw [h] at h2; exact absurd h2 (by decide)
  · have hc : (cutS s [10]).1 = s := by
      have := joinW_split (b := 10) (s := s)
      rw [h2] at this; simpa [joinW] using this
    have hw : whole s = false := by
      unfold whole; rw [h2, hc]; simp [hne]
    refine ⟨?_, hw⟩
    unfold recL; rw [hw, if_neg (by decide), h2]
structure LinI (s cur : List UInt8) (out : List (List UInt8)) (e : Bool) : Prop where
  h : out ++ recL cur = recL s
  w : (e && whole cur) = whole s
theorem LinI.zero (s : List UInt8) : LinI s s [] true := ⟨rfl, by simp⟩
theorem LinI.more {s cur : List UInt8} {out : List (List UInt8)} {e : Bool} (h : LinI s cur out e) (hc : (cutS cur [10]).2.2 = true) : LinI s (cutS cur [10]).2.1 (out ++ [(cutS cur [10]).1]) e := by
  obtain ⟨a, b, _⟩ := recL_more hc
  exact ⟨by rw [← h.h, a]; simp, by rw [← h.w, b]⟩
theorem LinI.last {s cur : List UInt8} {out : List (List UInt8)} {e : Bool} (h : LinI s cur out e) (hc : (cutS cur [10]).2.2 = false) (hne : cur ≠ []) : LinI s [] (out ++ [(cutS cur [10]).1]) false := by
  obtain ⟨a, b⟩ := recL_last hc hne
  exact ⟨by rw [← h.h, a, recL_nil]; simp, by rw [← h.w, b]; simp⟩
theorem LinI.done {s : List UInt8} {out : List (List UInt8)} {e : Bool} (h : LinI s [] out e) : out = recL s ∧ e = whole s := ⟨by rw [← h.h, recL_nil]; simp, by rw [← h.w, whole_nil]; simp⟩
theorem recL_len (s : List UInt8) : (recL s).length ≤ s.length + 1 := by
  have := split_len 10 s
  unfold recL; split
  · rw [List.length_dropLast]; omega
  · exact this
theorem LinI.len {s cur : List UInt8} {out : List (List UInt8)} {e : Bool} (h : LinI s cur out e) : out.length ≤ s.length + 1 := by
  have := recL_len s; rw [← h.h, List.length_append] at this; omega
theorem LinI.mem {s cur : List UInt8} {out : List (List UInt8)} {e : Bool} (h : LinI s cur out e) : ∀ w ∈ out, w.length ≤ s.length := fun w hw => by
  have h1 : w ∈ recL s := by rw [← h.h]; simp [hw]
  have h2 : w ∈ split 10 s := by
    unfold recL at h1; split at h1
    · exact List.dropLast_subset _ h1
    · exact h1
  exact split_mem 10 s w h2
def numI (t : List UInt8) : (Int × Int × Int) × Bool :=
  (((num (cutS t [46, 32]).1).1, (num (cutS (cutS t [46, 32]).2.1 [43]).1).1, (num (cutS (cutS t [46, 32]).2.1 [43]).2.1).1),
   (cutS t [46, 32]).2.2 && (cutS (cutS t [46, 32]).2.1 [43]).2.2 && (num (cutS t [46, 32]).1).2 && (num (cutS (cutS t [46, 32]).2.1 [43]).1).2 && (num (cutS (cutS t [46, 32]).2.1 [43]).2.1).2)
def w0 (t : List UInt8) : List UInt8 := (split 32 t).getD 0 []
def w1 (t : List UInt8) : List UInt8 := (split 32 t).getD 1 []
def v0 (t : List UInt8) : List UInt8 := (split 43 (w1 t)).getD 0 []
def v1 (t : List UInt8) : List UInt8 := (split 43 (w1 t)).getD 1 []
def fmS (t : List UInt8) : Prop := (split 32 t).length = 2 ∧ 2 ≤ (w0 t).length ∧ (w0 t)[(w0 t).length - 1]? = some 46 ∧ (split 43 (w1 t)).length = 2
instance (t : List UInt8) : Decidable (fmS t) := by unfold fmS; infer_instance
def numR (t : List UInt8) : (Int × Int × Int) × Bool :=
  if fmS t then (((num ((w0 t).take ((w0 t).length - 1))).1, (num (v0 t)).1, (num (v1 t)).1), (num ((w0 t).take ((w0 t).length - 1))).2 && (num (v0 t)).2 && (num (v1 t)).2) else ((0, 0, 0), false)
theorem dec_no2 {n : Int} {c : UInt8} (hc : c = 32 ∨ c = 43 ∨ c = 46 ∨ c = 10) : c ∉ dec n := fun h => by
  have := dec_B h
  rcases hc with rfl | rfl | rfl | rfl <;> (rcases this with h | ⟨h1, h2⟩ <;> first | exact absurd h (by decide) | exact absurd h1 (by decide) | exact absurd h2 (by decide))
theorem num_no2 {s : List UInt8} {c : UInt8} (h : (num s).2 = true) (hc : c = 32 ∨ c = 43 ∨ c = 46 ∨ c = 10) : c ∉ s := by
  rw [← num_dec h]; exact dec_no2 hc
theorem num_ne {s : List UInt8} (h : (num s).2 = true) : s ≠ [] := by rintro rfl; exact absurd h (by decide)
theorem cutS_dot {a r : List UInt8} (h : (46 : UInt8) ∉ a) : cutS (a ++ 46 :: 32 :: r) [46, 32] = (a, r, true) := by
  rw [cutS_yes (k := a.length) (by simp) (by simp) (fun i hi he => ?_)]
  · simp
  · rw [List.drop_append_of_le_length (by omega)] at he
    have hm : (a.drop i ++ 46 :: 32 :: r)[0]? = some 46 := by
      have := congrArg (·[0]?) he
      simpa using this
    rw [List.getElem?_append_left (by rw [List.length_drop]; omega), List.getElem?_drop] at hm
    exact h (List.mem_of_getElem? hm)
theorem cutS_plus {a r : List UInt8} (h : (43 : UInt8) ∉ a) : cutS (a ++ 43 :: r) [43] = (a, r, true) := by
  rw [cutS_yes (k := a.length) (by simp) (by simp) (fun i hi he => ?_)]
  · simp
  · rw [List.drop_append_of_le_length (by omega)] at he
    have hm : (a.drop i ++ 43 :: r)[0]? = some 43 := by
      have := congrArg (·[0]?) he
      simpa using this
    rw [List.getElem?_append_left (by rw [List.length_drop]; omega), List.getElem?_drop] at hm
    exact h (List.mem_of_getElem? hm)
structure Nums (t a b c : List UInt8) : Prop where
  e : t = a ++ 46 :: 32 :: (b ++ 43 :: c)
  a : (num a).2 = true
  b : (num b).2 = true
  c : (num c).2 = true
theorem Nums.i {t a b c : List UInt8} (h : Nums t a b c) : numI t = (((num a).1, (num b).1, (num c).1), true) := by
  have e1 := cutS_dot (r := b ++ 43 :: c) (num_no2 h.a (.inr (.inr (.inl rfl))))
  have e2 := cutS_plus (r := c) (num_no2 h.b (.inr (.inl rfl)))
  unfold numI
  rw [h.e, e1]; dsimp only; rw [e2]; dsimp only; rw [h.a, h.b, h.c]; rfl
theorem Nums.s {t a b c : List UInt8} (h : Nums t a b c) : numR t = (((num a).1, (num b).1, (num c).1), true) := by
  have na := num_no2 h.a (.inl rfl); have nb := num_no2 h.b (.inl rfl); have nc := num_no2 h.c (.inl rfl)
  have pb := num_no2 h.b (.inr (.inl rfl)); have pc := num_no2 h.c (.inr (.inl rfl))
  have hs : split 32 t = [a ++ [46], b ++ 43 :: c] := by
    rw [h.e, show a ++ 46 :: 32 :: (b ++ 43 :: c) = (a ++ [46]) ++ 32 :: (b ++ 43 :: c) by simp, split_app 32 _ _ (by simp [na]), split_last 32 _ (by simp [nb, nc])]
  have h0 : w0 t = a ++ [46] := by unfold w0; rw [hs]; rfl
  have h1 : w1 t = b ++ 43 :: c := by unfold w1; rw [hs]; rfl
  have hv : split 43 (w1 t) = [b, c] := by rw [h1, split_app 43 _ _ pb, split_last 43 _ pc]
  have e0 : v0 t = b := by unfold v0; rw [hv]; rfl
  have e1 : v1 t = c := by unfold v1; rw [hv]; rfl
  have hl := List.length_pos_iff.2 (num_ne h.a)
  have hf : fmS t := ⟨by rw [hs]; rfl, by rw [h0]; simp; omega, by rw [h0]; simp, by rw [hv]; rfl⟩
  have ht : (w0 t).take ((w0 t).length - 1) = a := by rw [h0]; simp
  unfold numR
  rw [if_pos hf, ht, e0, e1, h.a, h.b, h.c]; rfl
def chI (w : List UInt8) : Cho × Bool :=
  (⟨(num (cutS w [47]).1).1, (num (cutS (cutS w [47]).2.1 [47]).1).1, (num (cutS (cutS w [47]).2.1 [47]).2.1).1⟩,
   (cutS w [47]).2.2 && (cutS (cutS w [47]).2.1 [47]).2.2 && (num (cutS w [47]).1).2 && (num (cutS (cutS w [47]).2.1 [47]).1).2 && (num (cutS (cutS w [47]).2.1 [47]).2.1).2)
def c3 (w : List UInt8) (i : Nat) : List UInt8 := (split 47 w).getD i []
def chS (w : List UInt8) : Cho × Bool := if (split 47 w).length = 3 then (⟨(num (c3 w 0)).1, (num (c3 w 1)).1, (num (c3 w 2)).1⟩, (num (c3 w 0)).2 && (num (c3 w 1)).2 && (num (c3 w 2)).2) else (Cho.zero, false)
theorem chS_n {w : List UInt8} (h : ¬ (split 47 w).length = 3) : chS w = (Cho.zero, false) := if_neg h
theorem chS_y {w : List UInt8} (h : (split 47 w).length = 3) : chS w = (⟨(num (c3 w 0)).1, (num (c3 w 1)).1, (num (c3 w 2)).1⟩, (num (c3 w 0)).2 && (num (c3 w 1)).2 && (num (c3 w 2)).2) := if_pos h
theorem num_no47 {s : List UInt8} (h : (num s).2 = true) : (47 : UInt8) ∉ s := by rw [← num_dec h]; exact dec_no (.inr (.inr rfl))
theorem cut_self {b : UInt8} {s : List UInt8} (h : split b s = [(cutS s [b]).1]) : (cutS s [b]).1 = s := by
  have := joinW_split b s
  rw [h] at this; exact this
theorem ch_same (w : List UInt8) : (chI w).2 = (chS w).2 ∧ ((chS w).2 = true → (chI w).1 = (chS w).1) := by
  have no : ∀ {x : Bool}, (chI w).2 = false → (chS w).2 = false → (chI w).2 = (chS w).2 ∧ ((chS w).2 = true → (chI w).1 = (chS w).1) := fun a b => ⟨a.trans b.symm, fun h => by rw [b] at h; cases h⟩
  rcases cutS_one 47 w with ⟨a1, a2, _⟩ | ⟨a1, a2⟩
  · rcases cutS_one 47 (cutS w [47]).2.1 with ⟨b1, b2, _⟩ | ⟨b1, b2⟩
    · rcases cutS_one 47 (cutS (cutS w [47]).2.1 [47]).2.1 with ⟨c1, c2, _⟩ | ⟨c1, c2⟩
      · refine no (x := true) ?_ ?_
        · have : (num (cutS (cutS w [47]).2.1 [47]).2.1).2 = false := by
            cases e : (num (cutS (cutS w [47]).2.1 [47]).2.1).2 with
            | false => rfl
            | true =>
              have h1 := split_last 47 _ (num_no47 e)
              rw [h1] at c2
              injection c2 with _ c3
              exact absurd c3.symm (split_ne 47 _)
          unfold chI; dsimp only; rw [this]; simp
        · rw [chS_n]
          have := split_ne 47 (cutS (cutS (cutS w [47]).2.1 [47]).2.1 [47]).2.1
          rw [a2, b2, c2]
          cases e : split 47 (cutS (cutS (cutS w [47]).2.1 [47]).2.1 [47]).2.1 with
          | nil => exact absurd e this
          | cons x l => simp
      · have hq := cut_self c2
        rw [hq] at c2
        have hs : split 47 w = [(cutS w [47]).1, (cutS (cutS w [47]).2.1 [47]).1, (cutS (cutS w [47]).2.1 [47]).2.1] := by rw [a2, b2, c2]
        have e0 : c3 w 0 = (cutS w [47]).1 := by unfold c3; rw [hs]; rfl
        have e1 : c3 w 1 = (cutS (cutS w [47]).2.1 [47]).1 := by unfold c3; rw [hs]; rfl
        have e2 : c3 w 2 = (cutS (cutS w [47]).2.1 [47]).2.1 := by unfold c3; rw [hs]; rfl
        rw [chS_y (by rw [hs]; rfl), e0, e1, e2]
        unfold chI
        rw [a1, b1]
        exact ⟨by simp, fun _ => rfl⟩
    · refine no (x := true) ?_ ?_
      · unfold chI; dsimp only; rw [b1]; simp
      · rw [chS_n]; rw [a2, b2]; simp
  · refine no (x := true) ?_ ?_
    · unfold chI; dsimp only; rw [a1]; simp
    · rw [chS_n]; rw [a2]; simp
theorem chI_bd (w : List UInt8) : -999999999999999999 ≤ (chI w).1.move ∧ (chI w).1.move ≤ 999999999999999999 ∧ -999999999999999999 ≤ (chI w).1.games ∧ (chI w).1.games ≤ 999999999999999999 ∧ -999999999999999999 ≤ (chI w).1.score ∧ (chI w).1.score ≤ 999999999999999999 := by
  have a := num_bd (cutS w [47]).1; have b := num_bd (cutS (cutS w [47]).2.1 [47]).1; have c := num_bd (cutS (cutS w [47]).2.1 [47]).2.1
  unfold chI; dsimp only; omega
def goS : List (List UInt8) → List Cho × Bool
  | [] => ([], true)
  | w :: ws => if (chS w).2 = true then ((chS w).1 :: (goS ws).1, (goS ws).2) else ([(chS w).1], false)
def lineS (l : List UInt8) : Ent × Bool :=
  if (nums (w0 l)).2 = true then (⟨(nums (w0 l)).1, (goS ((split 32 l).drop 1)).1⟩, (goS ((split 32 l).drop 1)).2) else (⟨(nums (w0 l)).1, []⟩, false)
theorem lineS_n {l : List UInt8} (h : (nums (w0 l)).2 = false) : lineS l = (⟨(nums (w0 l)).1, []⟩, false) := by unfold lineS; rw [if_neg (by simp [h])]
theorem lineS_y {l : List UInt8} (h : (nums (w0 l)).2 = true) : lineS l = (⟨(nums (w0 l)).1, (goS ((split 32 l).drop 1)).1⟩, (goS ((split 32 l).drop 1)).2) := if_pos h
structure GoI (ws : List (List UInt8)) (k : Nat) (out : List Cho) : Prop where
  e : out ++ (goS (ws.drop k)).1 = (goS ws).1
  o : (goS (ws.drop k)).2 = (goS ws).2
theorem GoI.zero (ws : List (List UInt8)) : GoI ws 0 [] := ⟨rfl, rfl⟩
theorem drop_w {ws : List (List UInt8)} {k : Nat} {y : List UInt8} (h : ws[k]? = some y) : ws.drop k = y :: ws.drop (k + 1) := by
  obtain ⟨hk, e⟩ := List.getElem?_eq_some_iff.1 h
  rw [List.drop_eq_getElem_cons hk, e]
theorem GoI.step {ws : List (List UInt8)} {k : Nat} {out : List Cho} {y : List UInt8} (h : GoI ws k out) (hy : ws[k]? = some y) (ho : (chS y).2 = true) : GoI ws (k + 1) (out ++ [(chS y).1]) := by
  obtain ⟨a, b⟩ := h
  rw [drop_w hy, goS, if_pos ho] at a b
  exact ⟨by rw [← a]; simp, b⟩
theorem GoI.bad {ws : List (List UInt8)} {k : Nat} {out : List Cho} {y : List UInt8} (h : GoI ws k out) (hy : ws[k]? = some y) (ho : (chS y).2 = false) : (goS ws).2 = false ∧ out ++ [(chS y).1] = (goS ws).1 := by
  obtain ⟨a, b⟩ := h
  rw [drop_w hy, goS, if_neg (by simp [ho])] at a b
  exact ⟨b.symm, a⟩
theorem GoI.done {ws : List (List UInt8)} {k : Nat} {out : List Cho} (h : GoI ws k out) (hk : ws.length ≤ k) : goS ws = (out, true) := by
  obtain ⟨a, b⟩ := h
  rw [List.drop_eq_nil_of_le hk] at a b
  refine Prod.ext ?_ ?_
  · rw [← a]; simp [goS]
  · exact b.symm
theorem goS_len : ∀ ws : List (List UInt8), (goS ws).1.length ≤ ws.length
  | [] => Nat.le_refl _
  | w :: ws => by
    have := goS_len ws
    rw [goS]; split
    · simp only [List.length_cons]; omega
    · simp
theorem GoI.len {ws : List (List UInt8)} {k : Nat} {out : List Cho} (h : GoI ws k out) : out.length ≤ ws.length := by
  have := goS_len ws
  rw [← h.e, List.length_append] at this; omega
def goB : List (List UInt8) → List Ent × Bool
  | [] => ([], true)
  | l :: ls => if (lineS l).2 = true then ((lineS l).1 :: (goB ls).1, (goB ls).2) else ([], false)
structure GbI (ls : List (List UInt8)) (k : Nat) (out : List Ent) : Prop where
  e : out ++ (goB (ls.drop k)).1 = (goB ls).1
  o : (goB (ls.drop k)).2 = (goB ls).2
  n : out.length = k
theorem GbI.zero (ls : List (List UInt8)) : GbI ls 0 [] := ⟨rfl, rfl, rfl⟩
theorem GbI.step {ls : List (List UInt8)} {k : Nat} {out : List Ent} {y : List UInt8} (h : GbI ls k out) (hy : ls[k]? = some y) (ho : (lineS y).2 = true) : GbI ls (k + 1) (out ++ [(lineS y).1]) := by
  obtain ⟨a, b, c⟩ := h
  rw [drop_w hy, goB, if_pos ho] at a b
  exact ⟨by rw [← a]; simp, b, by simp [c]⟩
theorem GbI.bad {ls : List (List UInt8)} {k : Nat} {out : List Ent} {y : List UInt8} (h : GbI ls k out) (hy : ls[k]? = some y) (ho : (lineS y).2 = false) : (goB ls).2 = false := by
  obtain ⟨a, b, c⟩ := h
  rw [drop_w hy, goB, if_neg (by simp [ho])] at b
  exact b.symm
theorem GbI.done {ls : List (List UInt8)} {k : Nat} {out : List Ent} (h : GbI ls k out) (hk : ls.length ≤ k) : goB ls = (out, true) := by
  obtain ⟨a, b, c⟩ := h
  rw [List.drop_eq_nil_of_le hk] at a b
  refine Prod.ext ?_ ?_
  · rw [← a]; simp [goB]
  · exact b.symm
theorem goB_len : ∀ {ls : List (List UInt8)}, (goB ls).2 = true → (goB ls).1.length = ls.length
  | [], _ => rfl
  | l :: ls, h => by
    rw [goB] at h ⊢
    split at h
    · rename_i h1; rw [if_pos h1]; simp only [List.length_cons]; rw [goB_len h]
    · cases h
theorem chsN_flat (cs : List Cho) : ∀ k : Nat, k ≤ cs.length → chsN cs k = (cs.take k).flatMap chT
  | 0, _ => rfl
  | k + 1, h => by
    have e : cs.take (k + 1) = cs.take k ++ [cho cs k] := by
      rw [List.take_add_one, cho_get (by omega)]; rfl
    rw [chsN, chsN_flat cs k (by omega), e, List.flatMap_append]; simp
theorem joinW_flat (b : UInt8) (w : List UInt8) : ∀ ws : List (List UInt8), joinW b (w :: ws) = w ++ ws.flatMap (fun v => b :: v)
  | [] => by simp [joinW]
  | v :: ws => by
    show w ++ b :: joinW b (v :: ws) = _
    rw [joinW_flat b v ws]; simp
theorem chT_back {w : List UInt8} (h : (chS w).2 = true) : chT (chS w).1 = 32 :: w := by
  by_cases hl : (split 47 w).length = 3
  · rw [chS_y hl] at h ⊢
    simp only [Bool.and_eq_true] at h
    obtain ⟨⟨h0, h1⟩, h2⟩ := h
    unfold chT
    dsimp only
    rw [num_dec h0, num_dec h1, num_dec h2]
    have hj := joinW_split 47 w
    unfold c3
    match e : split 47 w with
    | [] => rw [e] at hl; cases hl
    | [_] => rw [e] at hl; cases hl
    | [_, _] => rw [e] at hl; cases hl
    | [a, b, c] =>
      rw [e] at hj
      rw [← hj]
      simp [joinW]
    | _ :: _ :: _ :: _ :: _ => rw [e] at hl; simp at hl
  · rw [chS_n hl] at h; cases h
theorem goS_back : ∀ {ws : List (List UInt8)}, (goS ws).2 = true → (goS ws).1.flatMap chT = ws.flatMap (fun w => 32 :: w)
  | [], _ => rfl
  | w :: ws, h => by
    rw [goS] at h ⊢
    split at h
    · rename_i h1
      rw [if_pos h1]
      simp only [List.flatMap_cons]
      rw [chT_back h1, goS_back h]
    · cases h
theorem split_w0 (l : List UInt8) : split 32 l = w0 l :: (split 32 l).drop 1 := by
  unfold w0
  cases e : split 32 l with
  | nil => exact absurd e (split_ne 32 l)
  | cons a r => rfl
theorem line_back {l : List UInt8} (h : (lineS l).2 = true) : entT (lineS l).1 = l ++ [10] := by
  cases hn : (nums (w0 l)).2 with
  | false => rw [lineS_n hn] at h; cases h
  | true =>
    rw [lineS_y hn] at h ⊢
    unfold entT
    dsimp only at h ⊢
    rw [chsN_flat _ _ (Nat.le_refl _), List.take_length, goS_back h, nums_dec hn, ← joinW_flat, ← split_w0, joinW_split]
theorem booN_flat (r : Rul) (es : List Ent) : ∀ k : Nat, k ≤ es.length → booN r es k = (rulesT r ++ [10]) ++ (es.take k).flatMap entT
  | 0, _ => by simp [booN]
  | k + 1, h => by
    have e : es.take (k + 1) = es.take k ++ [ent es k] := by rw [List.take_add_one, ent_get (by omega)]; rfl
    rw [booN, booN_flat r es k (by omega), e, List.flatMap_append]; simp
theorem goB_back : ∀ {ls : List (List UInt8)}, (goB ls).2 = true → (goB ls).1.flatMap entT = ls.flatMap (fun l => l ++ [10])
  | [], _ => rfl
  | l :: ls, h => by
    rw [goB] at h ⊢
    split at h
    · rename_i h1
      rw [if_pos h1]
      simp only [List.flatMap_cons]
      rw [line_back h1, goB_back h]
    · cases h
def hd0 (s : List UInt8) : List UInt8 := (split 10 s).getD 0 []
def mids (s : List UInt8) : List (List UInt8) := ((split 10 s).dropLast).drop 1
theorem whole_split {s : List UInt8} (h : whole s = true) (h2 : 2 ≤ (split 10 s).length) : split 10 s = hd0 s :: (mids s ++ [[]]) := by
  unfold whole at h
  simp only [decide_eq_true_eq] at h
  have hl : split 10 s = (split 10 s).dropLast ++ [[]] := by
    have hne := split_ne 10 s
    have := List.dropLast_concat_getLast hne
    rw [List.getLast?_eq_some_getLast hne] at h
    injection h with h
    rw [h] at this; exact this.symm
  have h3 : (split 10 s).dropLast = hd0 s :: mids s := by
    unfold mids hd0
    cases e : split 10 s with
    | nil => exact absurd e (split_ne 10 s)
    | cons a r =>
      rw [e] at h2
      cases r with
      | nil => simp at h2
      | cons b r => rw [List.dropLast_cons_of_ne_nil (by simp)]; rfl
  rw [h3] at hl
  rw [hl]; rfl
theorem flat_nl : ∀ (ls : List (List UInt8)), ([10] : List UInt8) ++ ls.flatMap (fun l => l ++ [10]) = (ls ++ [[]]).flatMap (fun l => (10 : UInt8) :: l)
  | [] => rfl
  | l :: ls => by
    have ih := flat_nl ls
    simp only [List.flatMap_cons, List.cons_append]
    rw [← ih]; simp
def bookS (s : List UInt8) : Boo := ⟨(readR (hd0 s)).1, (goB (mids s)).1⟩
def readB (s : List UInt8) : Boo × Bool :=
  if whole s = true ∧ 2 ≤ (split 10 s).length ∧ (readR (hd0 s)).2 = true ∧ (goB (mids s)).2 = true ∧ okB (bookS s) = true then (bookS s, true) else (Boo.zero, false)
theorem readB_n {s : List UInt8} (h : ¬ (whole s = true ∧ 2 ≤ (split 10 s).length ∧ (readR (hd0 s)).2 = true ∧ (goB (mids s)).2 = true ∧ okB (bookS s) = true)) : readB s = (Boo.zero, false) := if_neg h
theorem readB_y {s : List UInt8} (h1 : whole s = true) (h2 : 2 ≤ (split 10 s).length) (h3 : (readR (hd0 s)).2 = true) (h4 : (goB (mids s)).2 = true) (h5 : okB (bookS s) = true) : readB s = (bookS s, true) := if_pos ⟨h1, h2, h3, h4, h5⟩
theorem readR_text {s : List UInt8} (h : (readR s).2 = true) : rulesT (readR s).1 = s := by
  unfold readR at h ⊢
  split at h
  · rename_i h1
    rw [if_pos h1]
    dsimp only
    have h2 := h1.2.2
    unfold rulesTR at h2
    split at h2
    · exact h2
    · subst h2
      exfalso
      have : (readR []).2 = true := by
        unfold readR; rw [if_pos ⟨h1.1, h1.2.1, by unfold rulesTR; rw [if_neg (by assumption)]⟩]
      have hp : readR [] = (Rul.zero, false) := readR_p (by decide) (by decide +kernel)
      rw [hp] at this; cases this
  · cases h
theorem book_text {s : List UInt8} (h1 : whole s = true) (h2 : 2 ≤ (split 10 s).length) (h3 : (readR (hd0 s)).2 = true) (h4 : (goB (mids s)).2 = true) : booT (bookS s) = s := by
  unfold booT
  rw [booN_flat _ _ _ (Nat.le_refl _), List.take_length]
  unfold bookS
  dsimp only
  rw [readR_text h3, goB_back h4, List.append_assoc, flat_nl, ← joinW_flat, ← whole_split h1 h2, joinW_split]
theorem readB_long {s : List UInt8} (h : 202 < (split 10 s).length) : readB s = (Boo.zero, false) := by
  refine readB_n ?_
  rintro ⟨h1, h2, h3, h4, h5⟩
  have a := (okB_all9 h5).2.1
  have b := goB_len h4
  have c : (bookS s).entries.length = (mids s).length := b
  have d := congrArg List.length (whole_split h1 h2)
  simp only [List.length_cons, List.length_append, List.length_nil] at d
  omega
def textL (s : List UInt8) : List (List UInt8) × Bool := (if whole s = true then (split 10 s).dropLast else [], whole s)
theorem textL_y {s : List UInt8} {out : List (List UInt8)} (h : LinI s [] out true) : textL s = (out, true) := by
  obtain ⟨a, b⟩ := h.done
  unfold textL
  rw [← b, if_pos rfl, a]
  unfold recL
  rw [← b, if_pos rfl]
theorem textL_n {s cur : List UInt8} {out : List (List UInt8)} (h : LinI s cur out true) (hc : (cutS cur [10]).2.2 = false) (hne : cur ≠ []) : textL s = ([], false) := by
  have h2 := (h.last hc hne).done.2
  unfold textL
  rw [← h2, if_neg (by decide)]
theorem textL_len (s : List UInt8) : (textL s).1.length ≤ s.length + 1 := by
  have := split_len 10 s
  unfold textL; dsimp only; split
  · rw [List.length_dropLast]; omega
  · exact Nat.zero_le _
theorem textL_mem (s : List UInt8) : ∀ w ∈ (textL s).1, w.length ≤ s.length := fun w hw => by
  unfold textL at hw
  dsimp only at hw
  split at hw
  · exact split_mem 10 s w (List.dropLast_subset _ hw)
  · simp at hw
theorem textL_1 {s : List UInt8} (h : (textL s).2 = true) (h0 : ¬ (textL s).1.length = 0) : whole s = true ∧ 2 ≤ (split 10 s).length ∧ (textL s).1 = (split 10 s).dropLast ∧ (textL s).1.drop 1 = mids s ∧ (textL s).1[0]? = some (hd0 s) := by
  have hw : whole s = true := h
  have e : (textL s).1 = (split 10 s).dropLast := if_pos hw
  have h2 : 2 ≤ (split 10 s).length := by rw [e, List.length_dropLast] at h0; omega
  have h3 := whole_split hw h2
  have h4 : (split 10 s).dropLast = hd0 s :: mids s := by rw [h3, ← List.cons_append, List.dropLast_concat]
  exact ⟨hw, h2, e, by rw [e]; rfl, by rw [e, h4]; rfl⟩
theorem readB_t {s : List UInt8} (h : (textL s).2 = false ∨ (textL s).1.length = 0) : readB s = (Boo.zero, false) := by
  refine readB_n ?_
  rintro ⟨h1, h2, _⟩
  rcases h with h | h
  · have : whole s = false := h
    rw [h1] at this; cases this
  · have e : (textL s).1 = (split 10 s).dropLast := if_pos h1
    rw [e, List.length_dropLast] at h; omega
def SzR (n : Nat) (es : List Ent) : Prop := ∀ x ∈ es, x.pits.length ≤ n ∧ x.choices.length ≤ n
theorem SzR.nil (n : Nat) : SzR n [] := fun x h => by simp at h
theorem SzR.snoc {n : Nat} {es : List Ent} {x : Ent} (h : SzR n es) (h1 : x.pits.length ≤ n) (h2 : x.choices.length ≤ n) : SzR n (es ++ [x]) := fun y hy => by
  rcases List.mem_append.1 hy with hy | hy
  · exact h y hy
  · rw [List.mem_singleton.1 hy]; exact ⟨h1, h2⟩
theorem SzR.mono {n m : Nat} {es : List Ent} (h : SzR n es) (hm : n ≤ m) : ∀ x ∈ es, x.pits.length ≤ m ∧ x.choices.length ≤ m := fun x hx => by have := h x hx; omega
structure GlI (l : List UInt8) (k : Nat) (cs : List Cho) (ok : Bool) : Prop where
  y : ok = true → (nums (w0 l)).2 = true ∧ GoI ((split 32 l).drop 1) k cs
  n : ok = false → lineS l = (⟨(nums (w0 l)).1, cs⟩, false)
theorem GlI.zero (l : List UInt8) : GlI l 0 [] (nums (w0 l)).2 := ⟨fun h => ⟨h, GoI.zero _⟩, fun h => lineS_n h⟩
theorem GlI.step {l : List UInt8} {k : Nat} {cs : List Cho} {ok : Bool} {y : List UInt8} (h : GlI l k cs ok) (ho : ok = true) (hy : (split 32 l)[k + 1]? = some y) : GlI l (k + 1) (cs ++ [(chS y).1]) (chS y).2 := by
  obtain ⟨h1, h2⟩ := h.y ho
  have hy2 : ((split 32 l).drop 1)[k]? = some y := by rw [List.getElem?_drop, Nat.add_comm]; exact hy
  refine ⟨fun hc => ⟨h1, h2.step hy2 hc⟩, fun hc => ?_⟩
  obtain ⟨a, b⟩ := h2.bad hy2 hc
  rw [lineS_y h1, b, a]
theorem GlI.done {l : List UInt8} {k : Nat} {cs : List Cho} {ok : Bool} (h : GlI l k cs ok) (hk : ok = true → (split 32 l).length ≤ k + 1) : lineS l = (⟨(nums (w0 l)).1, cs⟩, ok) := by
  cases ho : ok with
  | false => rw [← ho]; rw [h.n ho, ho]
  | true =>
    obtain ⟨h1, h2⟩ := h.y ho
    have := h2.done (by rw [List.length_drop]; have := hk ho; omega)
    rw [lineS_y h1, this]
theorem GlI.len {l : List UInt8} {k : Nat} {cs : List Cho} {ok : Bool} (h : GlI l k cs ok) (ho : ok = true) : cs.length ≤ (split 32 l).length := by
  have := (h.y ho).2.len
  rw [List.length_drop] at this; omega
theorem lineS_len (l : List UInt8) : (lineS l).1.pits.length ≤ l.length + 2 ∧ (lineS l).1.choices.length ≤ l.length + 2 := by
  have a := nums_len (w0 l)
  have b : (w0 l).length ≤ l.length := by
    unfold w0
    rw [List.getD_eq_getElem?_getD]
    cases e : (split 32 l)[0]? with
    | none => simp
    | some w => exact split_mem 32 l w (List.mem_of_getElem? e)
  have c := goS_len ((split 32 l).drop 1)
  have d := split_len 32 l
  rw [List.length_drop] at c
  unfold lineS; split
  · dsimp only; omega
  · dsimp only; simp only [List.length_nil]; omega
theorem whole_at {s y : List UInt8} (h : (split 10 s)[(split 10 s).length - 1]? = some y) : whole s = decide (y = []) := by
  unfold whole; rw [List.getLast?_eq_getElem?, h]; simp
theorem mids_len (s : List UInt8) : (mids s).length = (split 10 s).length - 2 := by unfold mids; rw [List.length_drop, List.length_dropLast]; omega
theorem mids_get {s y : List UInt8} {i : Nat} (h : (split 10 s)[i]? = some y) (h1 : 1 ≤ i) (h2 : i < (split 10 s).length - 1) : (mids s)[i - 1]? = some y := by
  unfold mids
  rw [List.getElem?_drop, show 1 + (i - 1) = i by omega, List.getElem?_dropLast, if_pos h2, h]
theorem w0_get {l y : List UInt8} (h : (split 32 l)[0]? = some y) : w0 l = y := by unfold w0; rw [List.getD_eq_getElem?_getD, h]; rfl
theorem hd0_get {s y : List UInt8} (h : (split 10 s)[0]? = some y) : hd0 s = y := by unfold hd0; rw [List.getD_eq_getElem?_getD, h]; rfl
theorem c3_get {w y : List UInt8} {i : Nat} (h : (split 47 w)[i]? = some y) : c3 w i = y := by unfold c3; rw [List.getD_eq_getElem?_getD, h]; rfl
theorem readB_g {s : List UInt8} (h : (goB (mids s)).2 = false) : readB s = (Boo.zero, false) := readB_n (fun x => by rw [x.2.2.2.1] at h; cases h)
theorem readB_r {s : List UInt8} (h : (readR (hd0 s)).2 = false) : readB s = (Boo.zero, false) := readB_n (fun x => by rw [x.2.2.1] at h; cases h)
theorem readB_v {s : List UInt8} (h : okB (bookS s) = false) : readB s = (Boo.zero, false) := readB_n (fun x => by rw [x.2.2.2.2] at h; cases h)
theorem readB_w {s : List UInt8} (h : whole s = false ∨ (split 10 s).length < 2) : readB s = (Boo.zero, false) := readB_n (fun x => by
  rcases h with h | h
  · rw [x.1] at h; cases h
  · have := x.2.1; omega)
def addF : List Fct → Int → List Fct
  | [], x => [⟨2, x, 1⟩]
  | f :: r, x => if f.place = x then ⟨f.kind, f.place, f.count + 1⟩ :: r else f :: addF r x
def addFs (l : List Fct) (q : List Int) : List Fct := q.foldl addF l
def idxF : List Fct → Int → Option Nat
  | [], _ => none
  | f :: r, x => if f.place = x then some 0 else (idxF r x).map (· + 1)
theorem idxF_some : ∀ {l : List Fct} {x : Int} {i : Nat}, idxF l x = some i → ∃ f, l[i]? = some f ∧ f.place = x ∧ addF l x = l.set i ⟨f.kind, f.place, f.count + 1⟩
  | [], _, _, h => by simp [idxF] at h
  | f :: r, x, i, h => by
    rw [idxF] at h
    by_cases e : f.place = x
    · rw [if_pos e] at h
      injection h with h
      subst h
      exact ⟨f, rfl, e, by rw [addF, if_pos e]; rfl⟩
    · rw [if_neg e] at h
      cases hr : idxF r x with
      | none => rw [hr] at h; simp at h
      | some j =>
        rw [hr] at h
        simp at h
        subst h
        obtain ⟨g, h1, h2, h3⟩ := idxF_some hr
        exact ⟨g, by simpa using h1, h2, by rw [addF, if_neg e, h3]; rfl⟩
theorem idxF_none : ∀ {l : List Fct} {x : Int}, idxF l x = none → addF l x = l ++ [⟨2, x, 1⟩]
  | [], _, _ => rfl
  | f :: r, x, h => by
    rw [idxF] at h
    by_cases e : f.place = x
    · rw [if_pos e] at h; cases h
    · rw [if_neg e] at h
      cases hr : idxF r x with
      | none => rw [addF, if_neg e, idxF_none hr]; rfl
      | some j => rw [hr] at h; simp at h
theorem idxF_add : ∀ (l : List Fct) (x y : Int), idxF (addF l x) y = match idxF l y with
    | some i => some i
    | none => if x = y then some l.length else none
  | [], x, y => by
    simp only [addF, idxF]
    split <;> rfl
  | f :: r, x, y => by
    rw [addF]
    by_cases e : f.place = x
    · rw [if_pos e, idxF, idxF]
      by_cases e2 : f.place = y
      · simp [e2]
      · have : ¬ x = y := fun e3 => e2 (e.trans e3)
        cases hr : idxF r y <;> simp [e2, this]
    · rw [if_neg e, idxF, idxF, idxF_add r x y]
      by_cases e2 : f.place = y
      · simp [e2]
      · cases hr : idxF r y with
        | some j => simp [e2]
        | none => by_cases e3 : x = y <;> simp [e2, e3]
theorem addF_len (l : List Fct) (x : Int) : (addF l x).length ≤ l.length + 1 := by
  induction l with
  | nil => simp [addF]
  | cons f r ih =>
    rw [addF]; split
    · simp
    · simp only [List.length_cons]; omega
def MapF_ (g : List (Int × Int)) (off : Int) (l : List Fct) : Prop := ∀ x, mget g x = (idxF l x).map fun i => off + (i : Int)
theorem MapF_.zero (off : Int) : MapF_ [] off [] := fun x => rfl
theorem MapF_.hit {g : List (Int × Int)} {off : Int} {l : List Fct} (h : MapF_ g off l) {x : Int} (hx : mhas g x = true) : ∃ (i : Nat) (f : Fct), mval g x = off + (i : Int) ∧ l[i]? = some f ∧ addF l x = l.set i ⟨f.kind, f.place, f.count + 1⟩ ∧ MapF_ g off (addF l x) := by
  unfold mhas at hx
  rw [h x] at hx
  cases hi : idxF l x with
  | none => rw [hi] at hx; simp at hx
  | some i =>
    obtain ⟨f, h1, h2, h3⟩ := idxF_some hi
    refine ⟨i, f, by unfold mval; rw [h x, hi]; rfl, h1, h3, fun y => ?_⟩
    rw [h y, idxF_add]
    cases hy : idxF l y with
    | some j => rfl
    | none =>
      have : ¬ x = y := fun e => by rw [← e, hi] at hy; cases hy
      simp [this]
theorem MapF_.miss {g : List (Int × Int)} {off : Int} {l : List Fct} (h : MapF_ g off l) {x : Int} (hx : mhas g x = false) : addF l x = l ++ [⟨2, x, 1⟩] ∧ MapF_ (mput g x (off + (l.length : Int))) off (addF l x) := by
  unfold mhas at hx
  rw [h x] at hx
  cases hi : idxF l x with
  | some i => rw [hi] at hx; simp at hx
  | none =>
    refine ⟨idxF_none hi, fun y => ?_⟩
    rw [mget_put, idxF_add, h y]
    by_cases e : x = y
    · subst e; rw [if_pos rfl, hi]; simp
    · rw [if_neg e]
      cases hy : idxF l y <;> simp [e]
structure Lps where
  pits : List Int
  frm : Int
  left : Int
  done : List Fct
  cur : List Fct
def incP (ps : List Int) (x : Int) : List Int := if 0 ≤ x then setI ps x (getI ps x + 1) else ps
def lstep (s : Lps) (x : Int) : Lps :=
  if s.left = 0 then ⟨incP (setI s.pits s.frm 0) x, x, getI s.pits s.frm - 1, (s.done ++ s.cur) ++ [⟨1, s.frm, getI s.pits s.frm⟩], addF [] x⟩
  else ⟨incP s.pits x, x, s.left - 1, s.done, addF s.cur x⟩
def lsteps (s : Lps) (q : List Int) : Lps := q.foldl lstep s
theorem lsteps_app (s : Lps) (a b : List Int) : lsteps s (a ++ b) = lsteps (lsteps s a) b := by unfold lsteps; rw [List.foldl_append]
theorem sow_steps (r : Rul) (pl frm : Int) : ∀ (n : Nat) (place : Int) (ps ss path : List Int), ∃ q, (sow r pl frm n place ps ss path).2.2.2 = path ++ q ∧ q.length = n ∧
    ∀ (d c : List Fct), lsteps ⟨ps, place, (n : Int), d, c⟩ q = ⟨(sow r pl frm n place ps ss path).2.1, (sow r pl frm n place ps ss path).1, 0, d, addFs c q⟩
  | 0, place, ps, ss, path => ⟨[], by simp [sow], rfl, fun d c => rfl⟩
  | n + 1, place, ps, ss, path => by
    rw [sow]
    split
    · rename_i hx
      obtain ⟨q, h1, h2, h3⟩ := sow_steps r pl frm n (nxt r pl frm place) ps (setI ss pl (getI ss pl + 1)) (path ++ [nxt r pl frm place])
      refine ⟨nxt r pl frm place :: q, by rw [h1]; simp, by simp [h2], fun d c => ?_⟩
      have e : lstep ⟨ps, place, ((n + 1 : Nat) : Int), d, c⟩ (nxt r pl frm place) = ⟨ps, nxt r pl frm place, (n : Int), d, addF c (nxt r pl frm place)⟩ := by
        unfold lstep
        rw [if_neg (by show ¬ ((n + 1 : Nat) : Int) = 0; omega)]
        dsimp only
        unfold incP
        rw [if_neg (by omega), show ((n + 1 : Nat) : Int) - 1 = (n : Int) by omega]
      show lsteps (lstep _ _) q = _
      rw [e, h3]; rfl
    · rename_i hx
      obtain ⟨q, h1, h2, h3⟩ := sow_steps r pl frm n (nxt r pl frm place) (setI ps (nxt r pl frm place) (getI ps (nxt r pl frm place) + 1)) ss (path ++ [nxt r pl frm place])
      refine ⟨nxt r pl frm place :: q, by rw [h1]; simp, by simp [h2], fun d c => ?_⟩
      have e : lstep ⟨ps, place, ((n + 1 : Nat) : Int), d, c⟩ (nxt r pl frm place) = ⟨setI ps (nxt r pl frm place) (getI ps (nxt r pl frm place) + 1), nxt r pl frm place, (n : Int), d, addF c (nxt r pl frm place)⟩ := by
        unfold lstep
        rw [if_neg (by show ¬ ((n + 1 : Nat) : Int) = 0; omega)]
        dsimp only
        unfold incP
        rw [if_pos (by omega), show ((n + 1 : Nat) : Int) - 1 = (n : Int) by omega]
      show lsteps (lstep _ _) q = _
      rw [e, h3]; rfl
theorem lap_steps (r : Rul) (pl frm : Int) (s : Sw) (path : List Int) (hp : 0 < getI s.pits frm) : ∃ q, (lap r pl frm s path).2 = path ++ q ∧ (q.length : Int) = getI s.pits frm ∧
    ∀ (d c : List Fct), lsteps ⟨s.pits, frm, 0, d, c⟩ q = ⟨(lap r pl frm s path).1.pits, (lap r pl frm s path).1.last, 0, (d ++ c) ++ [⟨1, frm, getI s.pits frm⟩], addFs [] q⟩ := by
  obtain ⟨q, h1, h2, h3⟩ := sow_steps r pl frm (getI s.pits frm).toNat frm (setI s.pits frm 0) s.stores path
  refine ⟨q, h1, by omega, fun d c => ?_⟩
  have h4 := h3 ((d ++ c) ++ [⟨1, frm, getI s.pits frm⟩]) []
  cases q with
  | nil => simp at h2; omega
  | cons x q =>
    have e : lstep ⟨s.pits, frm, 0, d, c⟩ x = lstep ⟨setI s.pits frm 0, frm, ((getI s.pits frm).toNat : Int), (d ++ c) ++ [⟨1, frm, getI s.pits frm⟩], []⟩ x := by
      unfold lstep
      rw [if_pos rfl, if_neg (by show ¬ (((getI s.pits frm).toNat : Nat) : Int) = 0; omega)]
      dsimp only
      rw [show (((getI s.pits frm).toNat : Nat) : Int) - 1 = getI s.pits frm - 1 by omega]
    show lsteps (lstep _ _) q = _
    rw [e]
    exact h4
def lap0 (p : Pos) (frm : Int) : Lps := ⟨p.pits, frm, 0, [], []⟩
def lapsF (r : Rul) (p : Pos) (move : Int) : List Fct :=
  (lsteps (lap0 p (p.player * r.pits + move)) (sowMove r p move).2.2).done ++ (lsteps (lap0 p (p.player * r.pits + move)) (sowMove r p move).2.2).cur
structure FacI (r : Rul) (p : Pos) (frm0 frm : Int) (sw : Sw) (path : List Int) (out : List Fct) : Prop where
  st : ∃ d c, lsteps (lap0 p frm0) path = ⟨sw.pits, frm, 0, d, c⟩ ∧ out = d ++ c
theorem FacI.zero (r : Rul) (p : Pos) (frm : Int) : FacI r p frm frm ⟨p.pits, p.stores, 0, 0⟩ [] [] := ⟨⟨[], [], rfl, rfl⟩⟩
theorem FacI.lap {r : Rul} {p : Pos} {frm0 frm : Int} {sw : Sw} {path : List Int} {out : List Fct} (h : FacI r p frm0 frm sw path out) (hp : 0 < getI sw.pits frm) :
    FacI r p frm0 (M.lap r p.player frm sw path).1.last (M.lap r p.player frm sw path).1 (M.lap r p.player frm sw path).2 ((out ++ [⟨1, frm, getI sw.pits frm⟩]) ++ addFs [] ((M.lap r p.player frm sw path).2.drop path.length)) := by
  obtain ⟨d, c, h1, h2⟩ := h.st
  obtain ⟨q, h3, h4, h5⟩ := lap_steps r p.player frm sw path hp
  refine ⟨⟨(d ++ c) ++ [⟨1, frm, getI sw.pits frm⟩], addFs [] q, ?_, ?_⟩⟩
  · rw [h3, lsteps_app, h1]; exact h5 d c
  · rw [h3, List.drop_left, h2]
theorem FacI.out {r : Rul} {p : Pos} {move : Int} {frm : Int} {sw : Sw} {path : List Int} {out : List Fct} (h : FacI r p (p.player * r.pits + move) frm sw path out) (hp : path = (sowMove r p move).2.2) : out = lapsF r p move := by
  obtain ⟨d, c, h1, h2⟩ := h.st
  unfold lapsF
  rw [← hp, h1, h2]
def CntB (l : List Fct) (k : Int) : Prop := ∀ f ∈ l, 1 ≤ f.count ∧ f.count ≤ k
theorem CntB.add {x : Int} : ∀ {l : List Fct} {k : Int}, 0 ≤ k → CntB l k → CntB (addF l x) (k + 1)
  | [], k, hk, _ => fun f hf => by rw [addF, List.mem_singleton] at hf; subst hf; exact ⟨by show (1 : Int) ≤ 1; decide, by show (1 : Int) ≤ k + 1; omega⟩
  | g :: l, k, hk, h => by
    have hl : CntB l k := fun f hf => h f (by simp [hf])
    have hg := h g (by simp)
    rw [addF]
    split
    · intro f hf
      rcases List.mem_cons.1 hf with rfl | hf
      · exact ⟨by show 1 ≤ g.count + 1; omega, by show g.count + 1 ≤ k + 1; omega⟩
      · have := hl f hf; omega
    · intro f hf
      rcases List.mem_cons.1 hf with rfl | hf
      · omega
      · exact CntB.add hk hl f hf
structure RunI (r : Rul) (p : Pos) (frm0 frm : Int) (sw : Sw) (path : List Int) (more : Bool) : Prop where
  go : more = true → mvT r p.player (100 - sw.laps).toNat frm sw path = mvT r p.player 100 frm0 ⟨p.pits, p.stores, 0, 0⟩ [] ∧ 0 ≤ frm ∧ frm < 2 * r.pits ∧ 0 < getI sw.pits frm ∧ sw.laps ≤ 99
  fin : more = false → mvT r p.player 100 frm0 ⟨p.pits, p.stores, 0, 0⟩ [] = (true, sw, path)
  g : Good r sw.pits sw.stores 0
  l0 : 0 ≤ sw.laps ∧ sw.laps ≤ 100
  pl : (path.length : Int) ≤ 96 * sw.laps
theorem RunI.zero {r : Rul} {p : Pos} {frm : Int} (h0 : 0 ≤ frm) (h1 : frm < 2 * r.pits) (h2 : 0 < getI p.pits frm) (hG : Good r p.pits p.stores 0) : RunI r p frm frm ⟨p.pits, p.stores, 0, 0⟩ [] true :=
  { go := fun _ => ⟨rfl, h0, h1, h2, by show (0 : Int) ≤ 99; decide⟩, fin := fun h => absurd h (by decide), g := hG, l0 := (by show (0 : Int) ≤ 0 ∧ (0 : Int) ≤ 100; decide), pl := (by show ((0 : Nat) : Int) ≤ 96 * 0; decide) }
theorem RunI.lap {r : Rul} {p : Pos} {frm0 frm : Int} {sw : Sw} {path : List Int} (h : RunI r p frm0 frm sw path true) (r1 : r.pits ≤ 8) (r0 : 2 ≤ r.pits) (r2 : p.player = 0 ∨ p.player = 1) (hT : (mvT r p.player 100 frm0 ⟨p.pits, p.stores, 0, 0⟩ []).1 = true) :
    RunI r p frm0 (M.lap r p.player frm sw path).1.last (M.lap r p.player frm sw path).1 (M.lap r p.player frm sw path).2 (M.more r (M.lap r p.player frm sw path).1) := by
  obtain ⟨g1, g2, g3, g4, g5⟩ := h.go rfl
  obtain ⟨k1, k2⟩ := h.l0
  obtain ⟨ha, hb1, hc, hd, he, hf⟩ := M.lap_keeps r path r1 r0 r2 g2 g3 h.g
  have hpl := h.pl
  have hn : (100 - sw.laps).toNat = (99 - sw.laps).toNat + 1 := by omega
  refine ⟨fun hm => ?_, fun hm => ?_, ha, by omega, by omega⟩
  · rw [hn, mvT_yes hm] at g1
    have hm2 := more_get hm
    have hl : sw.laps ≤ 98 := by
      by_cases e : sw.laps ≤ 98
      · exact e
      · exfalso
        have e2 : (99 - sw.laps).toNat = 0 := by omega
        rw [e2, mvT] at g1
        rw [← g1] at hT
        exact absurd (show false = true from hT) (by decide)
    refine ⟨?_, hm2.1, hc, by omega, by omega⟩
    rw [← g1, hf, show (100 - (sw.laps + 1)).toNat = (99 - sw.laps).toNat by omega]
  · rw [hn, mvT_no hm] at g1
    exact g1.symm
theorem RunI.mv {r : Rul} {p : Pos} {move frm : Int} {sw : Sw} {path : List Int} (h : RunI r p (p.player * r.pits + move) frm sw path false) (hs : (sowMove r p move).1 = 0) : (sowMove r p move).2.1 = sw ∧ (sowMove r p move).2.2 = path := by
  have h1 := h.fin rfl
  by_cases hc : sowCode r p move = 0
  · have := sowMove_yes hc (by rw [h1])
    rw [this, h1]; exact ⟨rfl, rfl⟩
  · rw [sowMove_code hc] at hs; exact absurd hs hc
structure PI (r : Rul) (S : Lps) : Prop where
  g : ∃ ss, Good r S.pits ss S.left
  f : -1 ≤ S.frm ∧ S.frm < 2 * r.pits
  z : S.left = 0 → 0 ≤ S.frm ∧ 0 < getI S.pits S.frm
def sowL (l : List Fct) (b : Nat) (x : Int) : List Fct := l.take b ++ addF (l.drop b) x
def NoF (l : List Fct) (b i : Nat) (x : Int) : Prop := ∀ j, b ≤ j → j < i → (fct l j).place ≠ x
theorem NoF.zero (l : List Fct) (b : Nat) (x : Int) : NoF l b b x := fun j h1 h2 => absurd h1 (by omega)
theorem NoF.step {l : List Fct} {b i : Nat} {x : Int} (h : NoF l b i x) (hx : (fct l i).place ≠ x) : NoF l b (i + 1) x := fun j h1 h2 => by
  by_cases e : j = i
  · rw [e]; exact hx
  · exact h j h1 (by omega)
def CB (l : List Fct) (n : Int) : Prop := ∀ f ∈ l, 0 ≤ f.count ∧ f.count ≤ n
theorem CB.nil (n : Int) : CB [] n := fun f h => by simp at h
theorem CB.mono {l : List Fct} {n m : Int} (h : CB l n) (hm : n ≤ m) : CB l m := fun f hf => ⟨(h f hf).1, Int.le_trans (h f hf).2 hm⟩
theorem CB.add {x : Int} : ∀ {l : List Fct} {n : Int}, 0 ≤ n → CB l n → CB (addF l x) (n + 1)
  | [], n, hn, _ => fun f hf => by rw [addF, List.mem_singleton] at hf; subst hf; exact ⟨by show (0 : Int) ≤ 1; decide, by show (1 : Int) ≤ n + 1; omega⟩
  | g :: l, n, hn, h => by
    have hl : CB l n := fun f hf => h f (by simp [hf])
    have hg := h g (by simp)
    rw [addF]
    split
    · intro f hf
      rcases List.mem_cons.1 hf with rfl | hf
      · exact ⟨by show 0 ≤ g.count + 1; omega, by show g.count + 1 ≤ n + 1; omega⟩
      · have := hl f hf; omega
    · intro f hf
      rcases List.mem_cons.1 hf with rfl | hf
      · omega
      · exact CB.add hn hl f hf
theorem CB.sow {l : List Fct} {n : Int} (h : CB l n) (hn : 0 ≤ n) (b : Nat) (x : Int) : CB (sowL l b x) (n + 1) := fun f hf => by
  unfold sowL at hf
  rcases List.mem_append.1 hf with hf | hf
  · have := h f (List.mem_of_mem_take hf); omega
  · exact CB.add (l := l.drop b) hn (fun g hg => h g (List.mem_of_mem_drop hg)) f hf
theorem CB.fct {l : List Fct} {n : Int} (h : CB l n) {i : Nat} (hi : i < l.length) : 0 ≤ (fct l i).count ∧ (fct l i).count ≤ n := h _ (List.mem_of_getElem? (fct_get hi))
section
variable {S0 : Lps} {path : List Int} {i : Nat} {ps : List Int} {frm left : Int} {d c : List Fct}
end
def canW (f : Fct) : Bool :=
  if f.kind = 5 ∨ f.kind = 6 then decide (f.place = 0) && decide (f.count = 0) else
  if 1 ≤ f.kind ∧ f.kind ≤ 4 then betw f.count 1 96 && (betw f.place 0 15 || (decide (f.place = -1) && decide (f.kind = 2))) else false
def placeT (k : Int) : List UInt8 := if k < 0 then [115, 116, 111, 114, 101] else dec k
def factT0 (f : Fct) : List UInt8 :=
  if f.kind = 1 then ([116, 97, 107, 101, 32] ++ dec f.count) ++ [32, 102, 114, 111, 109, 32] ++ placeT f.place else
  if f.kind = 2 then ([115, 111, 119, 32] ++ dec f.count) ++ [32, 105, 110, 116, 111, 32] ++ placeT f.place else
  if f.kind = 3 then ([99, 97, 112, 116, 117, 114, 101, 32] ++ dec f.count) ++ [32, 102, 114, 111, 109, 32] ++ placeT f.place else
  if f.kind = 4 then ([115, 112, 97, 114, 101, 32] ++ dec f.count) ++ [32, 102, 114, 111, 109, 32] ++ placeT f.place else
  if f.kind = 5 then [97, 103, 97, 105, 110] else [116, 117, 114, 110]
def FW (f : Fct) : Prop := (f.kind = 1 ∨ f.kind = 2) ∧ -1 ≤ f.place ∧ f.place ≤ 15 ∧ (f.place = -1 → f.kind = 2) ∧ 1 ≤ f.count ∧ f.count ≤ 96
theorem FW.can {f : Fct} (h : FW f) : canW f = true := by
  obtain ⟨h1, h2, h3, h4, h5, h6⟩ := h
  unfold canW
  rw [if_neg (by omega), if_pos (by omega), betw_iff.2 ⟨h5, h6⟩]
  by_cases e : f.place = -1
  · simp [e, h4 e]
  · rw [betw_iff.2 ⟨by omega, h3⟩]; rfl
def csum : List Fct → Int
  | [] => 0
  | f :: l => f.count + csum l
theorem csum_add : ∀ (l : List Fct) (x : Int), csum (addF l x) = csum l + 1
  | [], x => rfl
  | f :: l, x => by
    rw [addF]; split
    · show f.count + 1 + csum l = f.count + csum l + 1; omega
    · show f.count + csum (addF l x) = f.count + csum l + 1; rw [csum_add l x]; omega
def SowOk (l : List Fct) : Prop := ∀ f ∈ l, f.kind = 2 ∧ -1 ≤ f.place ∧ f.place ≤ 15 ∧ 1 ≤ f.count
theorem SowOk.add {x : Int} (h0 : -1 ≤ x) (h1 : x ≤ 15) : ∀ {l : List Fct}, SowOk l → SowOk (addF l x)
  | [], _ => fun f hf => by rw [addF, List.mem_singleton] at hf; subst hf; exact ⟨rfl, h0, h1, by show (1 : Int) ≤ 1; decide⟩
  | g :: l, h => by
    have hl : SowOk l := fun f hf => h f (by simp [hf])
    have hg := h g (by simp)
    rw [addF]; split
    · intro f hf
      rcases List.mem_cons.1 hf with rfl | hf
      · exact ⟨hg.1, hg.2.1, hg.2.2.1, by show 1 ≤ g.count + 1; omega⟩
      · exact hl f hf
    · intro f hf
      rcases List.mem_cons.1 hf with rfl | hf
      · exact hg
      · exact SowOk.add h0 h1 hl f hf
theorem SowOk.sum : ∀ {l : List Fct}, SowOk l → 0 ≤ csum l ∧ ∀ f ∈ l, f.count ≤ csum l
  | [], _ => ⟨Int.le_refl _, fun f h => by simp at h⟩
  | g :: l, h => by
    have hl : SowOk l := fun f hf => h f (by simp [hf])
    have hg := h g (by simp)
    obtain ⟨h1, h2⟩ := SowOk.sum hl
    refine ⟨by show 0 ≤ g.count + csum l; omega, fun f hf => ?_⟩
    show f.count ≤ g.count + csum l
    rcases List.mem_cons.1 hf with rfl | hf
    · omega
    · have := h2 f hf; omega
theorem SowOk.fw {l : List Fct} (h : SowOk l) (hs : csum l ≤ 96) : ∀ f ∈ l, FW f := fun f hf => by
  have h1 := (SowOk.sum h).2 f hf
  obtain ⟨a, b, c, d⟩ := h f hf
  exact ⟨.inr a, b, c, fun _ => a, d, by omega⟩
structure LW (S : Lps) : Prop where
  d : ∀ f ∈ S.done, FW f
  c : SowOk S.cur
  s : csum S.cur + S.left ≤ 96
theorem LW.step {r : Rul} {S : Lps} (h : LW S) (hP : PI r S) (hr : r.pits ≤ 8) {x : Int} (h0 : -1 ≤ x) (h1 : x < 2 * r.pits) : LW (lstep S x) := by
  obtain ⟨ss, hG⟩ := hP.g
  have hn := hG.n0
  unfold lstep
  split
  · rename_i hz
    obtain ⟨z1, z2⟩ := hP.z hz
    have hp := hG.pit S.frm
    have hf := hP.f
    have hs := h.s
    have hfw : FW ⟨1, S.frm, getI S.pits S.frm⟩ := ⟨.inl rfl, by show -1 ≤ S.frm; omega, by show S.frm ≤ 15; omega, fun e => by have e : S.frm = -1 := e; omega, by show 1 ≤ getI S.pits S.frm; omega, hp.2⟩
    refine ⟨fun f hf => ?_, SowOk.add h0 (by omega) (fun f hf => by simp at hf), ?_⟩
    · dsimp only at hf
      rcases List.mem_append.1 hf with hf | hf
      · rcases List.mem_append.1 hf with hf | hf
        · exact h.d f hf
        · exact SowOk.fw h.c (by omega) f hf
      · rw [List.mem_singleton.1 hf]; exact hfw
    · show csum (addF [] x) + (getI S.pits S.frm - 1) ≤ 96
      rw [csum_add]; show (0 : Int) + 1 + (getI S.pits S.frm - 1) ≤ 96; omega
  · have hs := h.s
    refine ⟨h.d, SowOk.add h0 (by omega) h.c, ?_⟩
    show csum (addF S.cur x) + (S.left - 1) ≤ 96
    rw [csum_add]; omega
section
variable {out d c : List Fct} {t : Fct} {x n : Int} {b i : Nat}
end
theorem FacI.len {r : Rul} {p : Pos} {frm0 frm : Int} {sw : Sw} {path : List Int} {out : List Fct} (h : FacI r p frm0 frm sw path out) : out.length ≤ 2 * path.length := by
  have : ∀ (q : List Int) (S : Lps), ((lsteps S q).done ++ (lsteps S q).cur).length ≤ (S.done ++ S.cur).length + 2 * q.length := by
    intro q
    induction q with
    | nil => intro S; exact Nat.le_refl _
    | cons x q ih =>
      intro S
      have h1 := ih (lstep S x)
      have h2 : ((lstep S x).done ++ (lstep S x).cur).length ≤ (S.done ++ S.cur).length + 2 := by
        unfold lstep
        split
        · have := addF_len [] x
          simp only [List.length_append, List.length_cons, List.length_nil] at this ⊢; omega
        · have := addF_len S.cur x
          simp only [List.length_append] at this ⊢; omega
      show ((lsteps (lstep S x) q).done ++ (lsteps (lstep S x) q).cur).length ≤ _
      rw [List.length_cons]; omega
  obtain ⟨d, c, h1, h2⟩ := h.st
  have h3 := this path (lap0 p frm0)
  rw [h1] at h3
  rw [h2]
  simpa [lap0] using h3
def fkNames : List (List UInt8) := [[116, 97, 107, 101], [115, 111, 119], [99, 97, 112, 116, 117, 114, 101], [115, 112, 97, 114, 101], [97, 103, 97, 105, 110], [116, 117, 114, 110]]
section
variable {r : Rul} {p : Pos} {move code : Int}
end
def wn (s : List UInt8) (k : Nat) : List UInt8 := (split 32 s).getD k []
def kindOf (w : List UInt8) : Int := idx fkNames w + 1
def facI (s : List UInt8) : Fct :=
  if (split 32 s).length = 4 then ⟨kindOf (wn s 0), if wn s 3 = [115, 116, 111, 114, 101] then -1 else (num (wn s 3)).1, (num (wn s 1)).1⟩ else ⟨kindOf (wn s 0), 0, 0⟩
def facS (s : List UInt8) : Fct :=
  if (split 32 s).length = 4 then ⟨kindOf (wn s 0), if (num (wn s 3)).2 = true then (num (wn s 3)).1 else -1, (num (wn s 1)).1⟩ else ⟨kindOf (wn s 0), 0, 0⟩
theorem store_num : num [115, 116, 111, 114, 101] = (0, false) := by decide +kernel
theorem place_num {k : Int} (h0 : 0 ≤ k) (h1 : k ≤ 15) : num (placeT k) = (k, true) := by
  unfold placeT; rw [if_neg (by omega)]; exact num_dec_small h0 (by omega)
theorem d2_ne : ∀ n : Fin 16, d2 n ≠ [115, 116, 111, 114, 101] := by decide
theorem place_ne {k : Int} (h0 : 0 ≤ k) (h1 : k ≤ 15) : placeT k ≠ [115, 116, 111, 114, 101] := by
  obtain ⟨m, rfl⟩ := Int.eq_ofNat_of_zero_le h0
  unfold placeT; rw [if_neg (by omega), dec_d2 (by omega)]; exact d2_ne ⟨m, by omega⟩
theorem place_no {k : Int} : (32 : UInt8) ∉ placeT k := by
  unfold placeT; split
  · decide
  · exact dec_no (.inl rfl)
theorem canW_cases {f : Fct} (h : canW f = true) : (f.kind = 5 ∨ f.kind = 6) ∧ f.place = 0 ∧ f.count = 0 ∨ (f.kind = 1 ∨ f.kind = 2 ∨ f.kind = 3 ∨ f.kind = 4) ∧ 1 ≤ f.count ∧ f.count ≤ 96 ∧ (0 ≤ f.place ∧ f.place ≤ 15 ∨ f.place = -1) := by
  unfold canW at h
  split at h
  · rename_i hk
    simp only [Bool.and_eq_true, decide_eq_true_eq] at h
    exact .inl ⟨hk, h.1, h.2⟩
  · split at h
    · rename_i hk
      simp only [Bool.and_eq_true, Bool.or_eq_true, decide_eq_true_eq, betw_iff] at h
      refine .inr ⟨by omega, h.1.1, h.1.2, ?_⟩
      rcases h.2 with h | h
      · exact .inl h
      · exact .inr h.1
    · cases h
theorem split_4 {a b c d : List UInt8} (ha : (32 : UInt8) ∉ a) (hb : (32 : UInt8) ∉ b) (hc : (32 : UInt8) ∉ c) (hd : (32 : UInt8) ∉ d) : split 32 (a ++ 32 :: (b ++ 32 :: (c ++ 32 :: d))) = [a, b, c, d] := by
  rw [split_app 32 _ _ ha, split_app 32 _ _ hb, split_app 32 _ _ hc, split_last 32 _ hd]
theorem back {f : Fct} (h : canW f = true) : facI (factT0 f) = f ∧ facS (factT0 f) = f := by
  rcases canW_cases h with ⟨hk, hp, hc⟩ | ⟨hk, c0, c1, hp⟩
  · obtain ⟨k, p, c⟩ := f
    dsimp only at hk hp hc
    subst hp; subst hc
    rcases hk with rfl | rfl
    · exact ⟨by decide +kernel, by decide +kernel⟩
    · exact ⟨by decide +kernel, by decide +kernel⟩
  · have hn : num (dec f.count) = (f.count, true) := num_dec_small (by omega) c1
    have hdn : (32 : UInt8) ∉ dec f.count := dec_no (.inl rfl)
    have key : ∀ (w y : List UInt8), (32 : UInt8) ∉ w → (32 : UInt8) ∉ y → kindOf w = f.kind → factT0 f = w ++ 32 :: (dec f.count ++ 32 :: (y ++ 32 :: placeT f.place)) → facI (factT0 f) = f ∧ facS (factT0 f) = f := by
      intro w y hw hy hkk he
      have hs := split_4 hw hdn hy (place_no (k := f.place))
      rw [← he] at hs
      have e0 : wn (factT0 f) 0 = w := by unfold wn; rw [hs]; rfl
      have e1 : wn (factT0 f) 1 = dec f.count := by unfold wn; rw [hs]; rfl
      have e3 : wn (factT0 f) 3 = placeT f.place := by unfold wn; rw [hs]; rfl
      have hl : (split 32 (factT0 f)).length = 4 := by rw [hs]; rfl
      unfold facI facS
      rw [if_pos hl, if_pos hl, e0, e1, e3, hn, hkk]
      rcases hp with ⟨p0, p1⟩ | p0
      · rw [if_neg (place_ne p0 p1), place_num p0 p1, if_pos rfl]
        exact ⟨rfl, rfl⟩
      · have e : placeT f.place = [115, 116, 111, 114, 101] := by unfold placeT; rw [if_pos (by omega)]
        rw [e, if_pos rfl, store_num, if_neg (by decide)]
        have : f = ⟨f.kind, -1, f.count⟩ := by rw [← p0]
        exact ⟨this.symm, this.symm⟩
    rcases hk with e | e | e | e
    · exact key [116, 97, 107, 101] [102, 114, 111, 109] (by decide) (by decide) (by rw [e]; decide) (by unfold factT0; rw [if_pos e]; simp)
    · exact key [115, 111, 119] [105, 110, 116, 111] (by decide) (by decide) (by rw [e]; decide) (by unfold factT0; rw [if_neg (by omega), if_pos e]; simp)
    · exact key [99, 97, 112, 116, 117, 114, 101] [102, 114, 111, 109] (by decide) (by decide) (by rw [e]; decide) (by unfold factT0; rw [if_neg (by omega), if_neg (by omega), if_pos e]; simp)
    · exact key [115, 112, 97, 114, 101] [102, 114, 111, 109] (by decide) (by decide) (by rw [e]; decide) (by unfold factT0; rw [if_neg (by omega), if_neg (by omega), if_neg (by omega), if_pos e]; simp)
section
variable {s : List UInt8} {K P : Int}
end
end Go.Proofs.YtjklnidbndopiaaGreatDoor.M

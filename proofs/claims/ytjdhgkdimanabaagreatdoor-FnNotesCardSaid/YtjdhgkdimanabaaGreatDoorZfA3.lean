/- The table of types of the program, and what the types of the model are. -/
import Derived.Test.YtjdhgkdimanabaaGreatDoorZfA2
import Derived.Test.YtjdhgkdimanabaaGreatDoorProg
import Derived.ProofKit
import Derived.SizedLaws
import Derived.Test.YtjdhgkdimanabaaGreatDoorZfA1
import Derived.Laws.IdiomStrings
import Derived.Laws.IdiomCopy
import Derived.Laws.Slices
import Derived.Laws.Strings2
set_option linter.unusedSimpArgs false
set_option linter.unusedVariables false
namespace Go.Proofs.YtjdhgkdimanabaaGreatDoor
open Go.RowKit
theorem cellsOk_cons {w : World} {T : Ty} {Ts : List Ty} : ∀ {vs : List Value}, cellsOk w (T :: Ts) vs → ∃ x r, vs = x :: r ∧ T.ok w x ∧ cellsOk w Ts r
  | x :: r, h => ⟨x, r, rfl, h.1, h.2⟩
theorem cellsOk_nil {w : World} : ∀ {vs : List Value}, cellsOk w [] vs → vs = []
  | [], _ => rfl
theorem drop_flat {α β : Type} (f : α → List β) (k : Nat) (hf : ∀ a, (f a).length = k) : ∀ (l : List α) (i : Nat) (a : α), l[i]? = some a → ((l.flatMap f).drop (i * k)).take k = f a
  | x :: l, 0, a, h => by
    simp at h; subst h
    simp [List.flatMap_cons, hf, List.take_append]
  | x :: l, i + 1, a, h => by
    simp at h
    rw [List.flatMap_cons, Nat.succ_mul, Nat.add_comm, ← List.drop_drop, List.drop_left' (hf x)]
    exact drop_flat f k hf l i a h
  | [], _, _, h => by simp at h
theorem flat_len {α β : Type} (f : α → List β) (k : Nat) (hf : ∀ a, (f a).length = k) : ∀ (l : List α), (l.flatMap f).length = l.length * k
  | [] => by simp
  | x :: l => by rw [List.flatMap_cons, List.length_append, hf, flat_len f k hf l, List.length_cons, Nat.succ_mul, Nat.add_comm]
instance ty_2 : TyI Tryz.prog 2 false 1 := ⟨by kernel_rfl⟩
instance ty_3 : TyI Tryz.prog 3 false 1 := ⟨by kernel_rfl⟩
instance ty_4 : TyI Tryz.prog 4 false 1 := ⟨by kernel_rfl⟩
instance ty_5 : TyI Tryz.prog 5 false 1 := ⟨by kernel_rfl⟩
instance ty_9 : TyI Tryz.prog 9 false 1 := ⟨by kernel_rfl⟩
instance ty_22 : TyI Tryz.prog 22 false 1 := ⟨by kernel_rfl⟩
instance ty_25 : TyI Tryz.prog 25 true 9 := ⟨by kernel_rfl⟩
instance ty_26 : TyI Tryz.prog 26 false 1 := ⟨by kernel_rfl⟩
instance ty_28 : TyI Tryz.prog 28 true 3 := ⟨by kernel_rfl⟩
instance ty_48 : TyI Tryz.prog 48 true 17 := ⟨by kernel_rfl⟩
instance ty_87 : TyI Tryz.prog 87 true 6 := ⟨by kernel_rfl⟩
instance ty_121 : TyI Tryz.prog 121 true 7 := ⟨by kernel_rfl⟩
instance ty_124 : TyI Tryz.prog 124 false 1 := ⟨by kernel_rfl⟩
instance ty_126 : TyI Tryz.prog 126 true 3 := ⟨by kernel_rfl⟩
instance ty_139 : TyI Tryz.prog 139 true 4 := ⟨by kernel_rfl⟩
instance ty_170 : TyI Tryz.prog 170 true 6 := ⟨by kernel_rfl⟩
instance ty_185 : TyI Tryz.prog 185 true 15 := ⟨by kernel_rfl⟩
instance fld_25_0 : FldI Tryz.prog 25 0 0 2 false 1 := ⟨by kernel_rfl⟩
instance fld_25_1 : FldI Tryz.prog 25 1 1 2 false 1 := ⟨by kernel_rfl⟩
instance fld_25_2 : FldI Tryz.prog 25 2 2 4 false 1 := ⟨by kernel_rfl⟩
instance fld_25_3 : FldI Tryz.prog 25 3 3 4 false 1 := ⟨by kernel_rfl⟩
instance fld_25_4 : FldI Tryz.prog 25 4 4 4 false 1 := ⟨by kernel_rfl⟩
instance fld_25_5 : FldI Tryz.prog 25 5 5 4 false 1 := ⟨by kernel_rfl⟩
instance fld_25_6 : FldI Tryz.prog 25 6 6 4 false 1 := ⟨by kernel_rfl⟩
instance fld_25_7 : FldI Tryz.prog 25 7 7 2 false 1 := ⟨by kernel_rfl⟩
instance fld_25_8 : FldI Tryz.prog 25 8 8 2 false 1 := ⟨by kernel_rfl⟩
instance fld_28_0 : FldI Tryz.prog 28 0 0 26 false 1 := ⟨by kernel_rfl⟩
instance fld_28_1 : FldI Tryz.prog 28 1 1 26 false 1 := ⟨by kernel_rfl⟩
instance fld_28_2 : FldI Tryz.prog 28 2 2 2 false 1 := ⟨by kernel_rfl⟩
instance fld_48_0 : FldI Tryz.prog 48 0 0 25 true 9 := ⟨by kernel_rfl⟩
instance fld_48_1 : FldI Tryz.prog 48 1 9 28 true 3 := ⟨by kernel_rfl⟩
instance fld_48_2 : FldI Tryz.prog 48 2 12 26 false 1 := ⟨by kernel_rfl⟩
instance fld_48_3 : FldI Tryz.prog 48 3 13 28 true 3 := ⟨by kernel_rfl⟩
instance fld_48_4 : FldI Tryz.prog 48 4 16 2 false 1 := ⟨by kernel_rfl⟩
instance fld_87_0 : FldI Tryz.prog 87 0 0 2 false 1 := ⟨by kernel_rfl⟩
instance fld_87_1 : FldI Tryz.prog 87 1 1 2 false 1 := ⟨by kernel_rfl⟩
instance fld_87_2 : FldI Tryz.prog 87 2 2 4 false 1 := ⟨by kernel_rfl⟩
instance fld_87_3 : FldI Tryz.prog 87 3 3 28 true 3 := ⟨by kernel_rfl⟩
instance fld_126_0 : FldI Tryz.prog 126 0 0 22 false 1 := ⟨by kernel_rfl⟩
instance fld_126_1 : FldI Tryz.prog 126 1 1 3 false 1 := ⟨by kernel_rfl⟩
instance fld_126_2 : FldI Tryz.prog 126 2 2 124 false 1 := ⟨by kernel_rfl⟩
instance fld_139_0 : FldI Tryz.prog 139 0 0 26 false 1 := ⟨by kernel_rfl⟩
instance fld_139_1 : FldI Tryz.prog 139 1 1 26 false 1 := ⟨by kernel_rfl⟩
instance fld_139_2 : FldI Tryz.prog 139 2 2 2 false 1 := ⟨by kernel_rfl⟩
instance fld_139_3 : FldI Tryz.prog 139 3 3 2 false 1 := ⟨by kernel_rfl⟩
instance fld_185_0 : FldI Tryz.prog 185 0 0 25 true 9 := ⟨by kernel_rfl⟩
instance fld_185_1 : FldI Tryz.prog 185 1 9 2 false 1 := ⟨by kernel_rfl⟩
instance fld_185_2 : FldI Tryz.prog 185 2 10 139 true 4 := ⟨by kernel_rfl⟩
instance fld_185_3 : FldI Tryz.prog 185 3 14 26 false 1 := ⟨by kernel_rfl⟩
instance eI_22 : ElI Tryz.prog 22 5 1 1 [.int .u8 0] := ⟨by kernel_rfl⟩
theorem el_22 : elOf Tryz.prog 22 = some (5, 1, 1, [.int .u8 0]) := ElI.h
instance eI_26 : ElI Tryz.prog 26 2 1 8 [.int .i64 0] := ⟨by kernel_rfl⟩
theorem el_26 : elOf Tryz.prog 26 = some (2, 1, 8, [.int .i64 0]) := ElI.h
instance eI_50 : ElI Tryz.prog 50 9 1 16 [.string ByteArray.empty] := ⟨by kernel_rfl⟩
theorem el_50 : elOf Tryz.prog 50 = some (9, 1, 16, [.string ByteArray.empty]) := ElI.h
instance eI_84 : ElI Tryz.prog 84 87 6 80 [.int .i64 0, .int .i64 0, .bool false, .slice none 0 0, .slice none 0 0, .int .i64 0] := ⟨by kernel_rfl⟩
theorem el_84 : elOf Tryz.prog 84 = some (87, 6, 80, [.int .i64 0, .int .i64 0, .bool false, .slice none 0 0, .slice none 0 0, .int .i64 0]) := ElI.h
instance eI_104 : ElI Tryz.prog 104 28 3 56 [.slice none 0 0, .slice none 0 0, .int .i64 0] := ⟨by kernel_rfl⟩
theorem el_104 : elOf Tryz.prog 104 = some (28, 3, 56, [.slice none 0 0, .slice none 0 0, .int .i64 0]) := ElI.h
instance zero_25 : ZeroI Tryz.prog 25 [.int .i64 0, .int .i64 0, .bool false, .bool false, .bool false, .bool false, .bool false, .int .i64 0, .int .i64 0] := ⟨by kernel_rfl⟩
instance zero_28 : ZeroI Tryz.prog 28 [.slice none 0 0, .slice none 0 0, .int .i64 0] := ⟨by kernel_rfl⟩
instance zero_48 : ZeroI Tryz.prog 48 [.int .i64 0, .int .i64 0, .bool false, .bool false, .bool false, .bool false, .bool false, .int .i64 0, .int .i64 0, .slice none 0 0, .slice none 0 0, .int .i64 0, .slice none 0 0, .slice none 0 0, .slice none 0 0, .int .i64 0, .int .i64 0] := ⟨by kernel_rfl⟩
instance zero_87 : ZeroI Tryz.prog 87 [.int .i64 0, .int .i64 0, .bool false, .slice none 0 0, .slice none 0 0, .int .i64 0] := ⟨by kernel_rfl⟩
instance zero_121 : ZeroI Tryz.prog 121 [.string ByteArray.empty, .string ByteArray.empty, .string ByteArray.empty, .string ByteArray.empty, .string ByteArray.empty, .string ByteArray.empty, .string ByteArray.empty] := ⟨by kernel_rfl⟩
instance zero_126 : ZeroI Tryz.prog 126 [.slice none 0 0, .int .i64 0, .int .u64 0] := ⟨by kernel_rfl⟩
instance zero_139 : ZeroI Tryz.prog 139 [.slice none 0 0, .slice none 0 0, .int .i64 0, .int .i64 0] := ⟨by kernel_rfl⟩
instance zero_170 : ZeroI Tryz.prog 170 [.string ByteArray.empty, .string ByteArray.empty, .string ByteArray.empty, .string ByteArray.empty, .string ByteArray.empty, .string ByteArray.empty] := ⟨by kernel_rfl⟩
instance zero_185 : ZeroI Tryz.prog 185 [.int .i64 0, .int .i64 0, .bool false, .bool false, .bool false, .bool false, .bool false, .int .i64 0, .int .i64 0, .int .i64 0, .slice none 0 0, .slice none 0 0, .int .i64 0, .int .i64 0, .slice none 0 0] := ⟨by kernel_rfl⟩
instance flds_25 : FldsI Tryz.prog 25 [(0, 1), (1, 1), (2, 1), (3, 1), (4, 1), (5, 1), (6, 1), (7, 1), (8, 1)] := ⟨by kernel_rfl⟩
instance flds_28 : FldsI Tryz.prog 28 [(0, 1), (1, 1), (2, 1)] := ⟨by kernel_rfl⟩
instance flds_48 : FldsI Tryz.prog 48 [(0, 9), (9, 3), (12, 1), (13, 3), (16, 1)] := ⟨by kernel_rfl⟩
instance flds_87 : FldsI Tryz.prog 87 [(0, 1), (1, 1), (2, 1), (3, 3)] := ⟨by kernel_rfl⟩
instance flds_126 : FldsI Tryz.prog 126 [(0, 1), (1, 1), (2, 1)] := ⟨by kernel_rfl⟩
instance flds_139 : FldsI Tryz.prog 139 [(0, 1), (1, 1), (2, 1), (3, 1)] := ⟨by kernel_rfl⟩
instance flds_185 : FldsI Tryz.prog 185 [(0, 9), (9, 1), (10, 4), (14, 1)] := ⟨by kernel_rfl⟩
instance arr_121 : ArrI Tryz.prog 121 7 1 := ⟨by kernel_rfl⟩
instance arr_170 : ArrI Tryz.prog 170 6 1 := ⟨by kernel_rfl⟩
instance fn_5 : FnI Tryz.prog 5 := ⟨by kernel_rfl⟩
instance fn_22 : FnI Tryz.prog 22 := ⟨by kernel_rfl⟩
instance fn_23 : FnI Tryz.prog 23 := ⟨by kernel_rfl⟩
instance fn_24 : FnI Tryz.prog 24 := ⟨by kernel_rfl⟩
instance fn_25 : FnI Tryz.prog 25 := ⟨by kernel_rfl⟩
instance fn_26 : FnI Tryz.prog 26 := ⟨by kernel_rfl⟩
instance fn_27 : FnI Tryz.prog 27 := ⟨by kernel_rfl⟩
instance fn_28 : FnI Tryz.prog 28 := ⟨by kernel_rfl⟩
instance fn_29 : FnI Tryz.prog 29 := ⟨by kernel_rfl⟩
instance fn_30 : FnI Tryz.prog 30 := ⟨by kernel_rfl⟩
instance fn_31 : FnI Tryz.prog 31 := ⟨by kernel_rfl⟩
instance fn_32 : FnI Tryz.prog 32 := ⟨by kernel_rfl⟩
instance fn_33 : FnI Tryz.prog 33 := ⟨by kernel_rfl⟩
instance fn_34 : FnI Tryz.prog 34 := ⟨by kernel_rfl⟩
instance fn_35 : FnI Tryz.prog 35 := ⟨by kernel_rfl⟩
instance fn_36 : FnI Tryz.prog 36 := ⟨by kernel_rfl⟩
instance fn_37 : FnI Tryz.prog 37 := ⟨by kernel_rfl⟩
instance fn_38 : FnI Tryz.prog 38 := ⟨by kernel_rfl⟩
instance fn_40 : FnI Tryz.prog 40 := ⟨by kernel_rfl⟩
instance fn_43 : FnI Tryz.prog 43 := ⟨by kernel_rfl⟩
instance fn_44 : FnI Tryz.prog 44 := ⟨by kernel_rfl⟩
instance fn_45 : FnI Tryz.prog 45 := ⟨by kernel_rfl⟩
instance fn_50 : FnI Tryz.prog 50 := ⟨by kernel_rfl⟩
instance fn_51 : FnI Tryz.prog 51 := ⟨by kernel_rfl⟩
instance fn_52 : FnI Tryz.prog 52 := ⟨by kernel_rfl⟩
instance fn_54 : FnI Tryz.prog 54 := ⟨by kernel_rfl⟩
instance fn_56 : FnI Tryz.prog 56 := ⟨by kernel_rfl⟩
instance fn_57 : FnI Tryz.prog 57 := ⟨by kernel_rfl⟩
instance fn_58 : FnI Tryz.prog 58 := ⟨by kernel_rfl⟩
instance fn_59 : FnI Tryz.prog 59 := ⟨by kernel_rfl⟩
instance fn_60 : FnI Tryz.prog 60 := ⟨by kernel_rfl⟩
instance fn_61 : FnI Tryz.prog 61 := ⟨by kernel_rfl⟩
instance fn_69 : FnI Tryz.prog 69 := ⟨by kernel_rfl⟩
instance fn_70 : FnI Tryz.prog 70 := ⟨by kernel_rfl⟩
instance fn_71 : FnI Tryz.prog 71 := ⟨by kernel_rfl⟩
instance fn_72 : FnI Tryz.prog 72 := ⟨by kernel_rfl⟩
instance fn_73 : FnI Tryz.prog 73 := ⟨by kernel_rfl⟩
instance fn_74 : FnI Tryz.prog 74 := ⟨by kernel_rfl⟩
instance fn_75 : FnI Tryz.prog 75 := ⟨by kernel_rfl⟩
instance fn_76 : FnI Tryz.prog 76 := ⟨by kernel_rfl⟩
instance fn_77 : FnI Tryz.prog 77 := ⟨by kernel_rfl⟩
instance fn_78 : FnI Tryz.prog 78 := ⟨by kernel_rfl⟩
instance fn_79 : FnI Tryz.prog 79 := ⟨by kernel_rfl⟩
instance fn_80 : FnI Tryz.prog 80 := ⟨by kernel_rfl⟩
instance fn_81 : FnI Tryz.prog 81 := ⟨by kernel_rfl⟩
instance fn_82 : FnI Tryz.prog 82 := ⟨by kernel_rfl⟩
instance fn_83 : FnI Tryz.prog 83 := ⟨by kernel_rfl⟩
instance fn_84 : FnI Tryz.prog 84 := ⟨by kernel_rfl⟩
instance fn_85 : FnI Tryz.prog 85 := ⟨by kernel_rfl⟩
instance fn_86 : FnI Tryz.prog 86 := ⟨by kernel_rfl⟩
instance fn_87 : FnI Tryz.prog 87 := ⟨by kernel_rfl⟩
instance fn_90 : FnI Tryz.prog 90 := ⟨by kernel_rfl⟩
instance fn_92 : FnI Tryz.prog 92 := ⟨by kernel_rfl⟩
instance fn_93 : FnI Tryz.prog 93 := ⟨by kernel_rfl⟩
instance fn_97 : FnI Tryz.prog 97 := ⟨by kernel_rfl⟩
instance fn_99 : FnI Tryz.prog 99 := ⟨by kernel_rfl⟩
instance fn_101 : FnI Tryz.prog 101 := ⟨by kernel_rfl⟩
instance fn_102 : FnI Tryz.prog 102 := ⟨by kernel_rfl⟩
instance fn_105 : FnI Tryz.prog 105 := ⟨by kernel_rfl⟩
instance fn_106 : FnI Tryz.prog 106 := ⟨by kernel_rfl⟩
instance fn_107 : FnI Tryz.prog 107 := ⟨by kernel_rfl⟩
instance fn_108 : FnI Tryz.prog 108 := ⟨by kernel_rfl⟩
instance fn_109 : FnI Tryz.prog 109 := ⟨by kernel_rfl⟩
instance fn_110 : FnI Tryz.prog 110 := ⟨by kernel_rfl⟩
instance fn_111 : FnI Tryz.prog 111 := ⟨by kernel_rfl⟩
instance fn_112 : FnI Tryz.prog 112 := ⟨by kernel_rfl⟩
instance fn_113 : FnI Tryz.prog 113 := ⟨by kernel_rfl⟩
instance fn_120 : FnI Tryz.prog 120 := ⟨by kernel_rfl⟩
instance fn_121 : FnI Tryz.prog 121 := ⟨by kernel_rfl⟩
instance fn_122 : FnI Tryz.prog 122 := ⟨by kernel_rfl⟩
instance fn_123 : FnI Tryz.prog 123 := ⟨by kernel_rfl⟩
instance fn_124 : FnI Tryz.prog 124 := ⟨by kernel_rfl⟩
instance fn_125 : FnI Tryz.prog 125 := ⟨by kernel_rfl⟩
instance fn_126 : FnI Tryz.prog 126 := ⟨by kernel_rfl⟩
instance fn_127 : FnI Tryz.prog 127 := ⟨by kernel_rfl⟩
instance fn_128 : FnI Tryz.prog 128 := ⟨by kernel_rfl⟩
instance fn_129 : FnI Tryz.prog 129 := ⟨by kernel_rfl⟩
instance fn_130 : FnI Tryz.prog 130 := ⟨by kernel_rfl⟩
instance fn_131 : FnI Tryz.prog 131 := ⟨by kernel_rfl⟩
instance fn_132 : FnI Tryz.prog 132 := ⟨by kernel_rfl⟩
instance fn_133 : FnI Tryz.prog 133 := ⟨by kernel_rfl⟩
instance fn_134 : FnI Tryz.prog 134 := ⟨by kernel_rfl⟩
instance fn_135 : FnI Tryz.prog 135 := ⟨by kernel_rfl⟩
instance fn_136 : FnI Tryz.prog 136 := ⟨by kernel_rfl⟩
instance fn_138 : FnI Tryz.prog 138 := ⟨by kernel_rfl⟩
instance fn_139 : FnI Tryz.prog 139 := ⟨by kernel_rfl⟩
instance fn_140 : FnI Tryz.prog 140 := ⟨by kernel_rfl⟩
instance fn_141 : FnI Tryz.prog 141 := ⟨by kernel_rfl⟩
instance fn_144 : FnI Tryz.prog 144 := ⟨by kernel_rfl⟩
instance fn_147 : FnI Tryz.prog 147 := ⟨by kernel_rfl⟩
instance fn_148 : FnI Tryz.prog 148 := ⟨by kernel_rfl⟩
instance fn_149 : FnI Tryz.prog 149 := ⟨by kernel_rfl⟩
instance fn_150 : FnI Tryz.prog 150 := ⟨by kernel_rfl⟩
instance fn_151 : FnI Tryz.prog 151 := ⟨by kernel_rfl⟩
instance fn_152 : FnI Tryz.prog 152 := ⟨by kernel_rfl⟩
instance fn_153 : FnI Tryz.prog 153 := ⟨by kernel_rfl⟩
instance fn_154 : FnI Tryz.prog 154 := ⟨by kernel_rfl⟩
instance fn_155 : FnI Tryz.prog 155 := ⟨by kernel_rfl⟩
instance fn_156 : FnI Tryz.prog 156 := ⟨by kernel_rfl⟩
instance fn_157 : FnI Tryz.prog 157 := ⟨by kernel_rfl⟩
instance fn_158 : FnI Tryz.prog 158 := ⟨by kernel_rfl⟩
instance fn_159 : FnI Tryz.prog 159 := ⟨by kernel_rfl⟩
instance fn_160 : FnI Tryz.prog 160 := ⟨by kernel_rfl⟩
instance fn_163 : FnI Tryz.prog 163 := ⟨by kernel_rfl⟩
instance fn_164 : FnI Tryz.prog 164 := ⟨by kernel_rfl⟩
instance fn_165 : FnI Tryz.prog 165 := ⟨by kernel_rfl⟩
instance fn_166 : FnI Tryz.prog 166 := ⟨by kernel_rfl⟩
instance fn_167 : FnI Tryz.prog 167 := ⟨by kernel_rfl⟩
instance fn_168 : FnI Tryz.prog 168 := ⟨by kernel_rfl⟩
instance fn_169 : FnI Tryz.prog 169 := ⟨by kernel_rfl⟩
instance fn_170 : FnI Tryz.prog 170 := ⟨by kernel_rfl⟩
instance fn_171 : FnI Tryz.prog 171 := ⟨by kernel_rfl⟩
instance fn_177 : FnI Tryz.prog 177 := ⟨by kernel_rfl⟩
instance fn_178 : FnI Tryz.prog 178 := ⟨by kernel_rfl⟩
instance fn_179 : FnI Tryz.prog 179 := ⟨by kernel_rfl⟩
instance fn_180 : FnI Tryz.prog 180 := ⟨by kernel_rfl⟩
instance fn_181 : FnI Tryz.prog 181 := ⟨by kernel_rfl⟩
instance fn_182 : FnI Tryz.prog 182 := ⟨by kernel_rfl⟩
instance fn_183 : FnI Tryz.prog 183 := ⟨by kernel_rfl⟩
instance fn_184 : FnI Tryz.prog 184 := ⟨by kernel_rfl⟩
instance fn_185 : FnI Tryz.prog 185 := ⟨by kernel_rfl⟩
instance fn_193 : FnI Tryz.prog 193 := ⟨by kernel_rfl⟩
instance fn_194 : FnI Tryz.prog 194 := ⟨by kernel_rfl⟩
instance fn_195 : FnI Tryz.prog 195 := ⟨by kernel_rfl⟩
instance fn_196 : FnI Tryz.prog 196 := ⟨by kernel_rfl⟩
instance fn_202 : FnI Tryz.prog 202 := ⟨by kernel_rfl⟩
instance fn_203 : FnI Tryz.prog 203 := ⟨by kernel_rfl⟩
instance uI_4 : UndI Tryz.prog 4 (.bool) := ⟨@Tryz.underlying4⟩
theorem und_4 : Tryz.prog.underlying 4 = some (.bool) := UndI.h
instance uI_9 : UndI Tryz.prog 9 (.string) := ⟨@Tryz.underlying9⟩
theorem und_9 : Tryz.prog.underlying 9 = some (.string) := UndI.h
instance uI_10 : UndI Tryz.prog 10 (.string) := ⟨@Tryz.underlying10⟩
instance uI_11 : UndI Tryz.prog 11 (.string) := ⟨@Tryz.underlying11⟩
instance uI_22 : UndI Tryz.prog 22 (.slice 5) := ⟨@Tryz.underlying22⟩
theorem und_22 : Tryz.prog.underlying 22 = some (.slice 5) := UndI.h
instance uI_26 : UndI Tryz.prog 26 (.slice 2) := ⟨@Tryz.underlying26⟩
theorem und_26 : Tryz.prog.underlying 26 = some (.slice 2) := UndI.h
instance uI_50 : UndI Tryz.prog 50 (.slice 9) := ⟨@Tryz.underlying50⟩
theorem und_50 : Tryz.prog.underlying 50 = some (.slice 9) := UndI.h
instance uI_84 : UndI Tryz.prog 84 (.slice 87) := ⟨@Tryz.underlying84⟩
theorem und_84 : Tryz.prog.underlying 84 = some (.slice 87) := UndI.h
instance uI_95 : UndI Tryz.prog 95 (.slice 99) := ⟨@Tryz.underlying95⟩
instance uI_104 : UndI Tryz.prog 104 (.slice 28) := ⟨@Tryz.underlying104⟩
theorem und_104 : Tryz.prog.underlying 104 = some (.slice 28) := UndI.h
instance mixI : MixI Tryz.prog := ⟨by kernel_rfl⟩
@[reducible] def cRules (x : M.Rul) : List Ty := [Ty.int x.pits, Ty.int x.seeds, Ty.bool x.stores, Ty.bool x.skip, Ty.bool x.relay, Ty.bool x.feed, Ty.bool x.again, Ty.int x.capture, Ty.int x.slam]
def lRules (xs : List M.Rul) : List Ty := xs.flatMap cRules
theorem lRules_length (xs : List M.Rul) : (lRules xs).length = xs.length * 9 := flat_len cRules 9 (fun _ => rfl) xs
instance : LenL lRules 9 := ⟨lRules_length⟩
@[reducible] def cPosition (x : M.Pos) : List Ty := [Ty.ints 2 x.pits, Ty.ints 2 x.stores, Ty.int x.player]
def lPosition (xs : List M.Pos) : List Ty := xs.flatMap cPosition
theorem lPosition_length (xs : List M.Pos) : (lPosition xs).length = xs.length * 3 := flat_len cPosition 3 (fun _ => rfl) xs
instance : LenL lPosition 3 := ⟨lPosition_length⟩
theorem elem_Position {u : World} {e c i : Nat} {A : Option Addr} {xs : List M.Pos} {x : M.Pos} (h : (Ty.sl e 3 xs.length (lPosition xs)).ok u (.slice A xs.length c)) (hi : xs[i]? = some x) : ∃ b o A0 c0 A1 c1, elemA 3 (.slice A xs.length c) i = some ⟨b, o, none⟩ ∧ RowAt u b o [.slice A0 x.pits.length c0, .slice A1 x.stores.length c1, .int .i64 x.player] ∧ (Ty.ints 2 x.pits).ok u (.slice A0 x.pits.length c0) ∧ (Ty.ints 2 x.stores).ok u (.slice A1 x.stores.length c1) ∧ x.pits.length ≤ c0 ∧ c0 ≤ 9223372036854775807 ∧ x.stores.length ≤ c1 ∧ c1 ≤ 9223372036854775807 := by
  obtain ⟨b, o, vs, he, h, hr⟩ := sl_elem h (List.getElem?_eq_some_iff.1 hi).1 rfl
  have e := drop_flat cPosition 3 (fun _ => rfl) xs i x hi
  unfold lPosition at h
  rw [e] at h
  obtain ⟨x0, r, rfl, h0, h⟩ := cellsOk_cons h
  obtain ⟨x1, r, rfl, h1, h⟩ := cellsOk_cons h
  obtain ⟨x2, r, rfl, h2, h⟩ := cellsOk_cons h
  obtain rfl := cellsOk_nil h
  obtain ⟨A0, c0, rfl, b0, d0⟩ := sl_form h0
  obtain ⟨A1, c1, rfl, b1, d1⟩ := sl_form h1
  obtain rfl : x2 = .int .i64 x.player := h2
  exact ⟨b, o, A0, c0, A1, c1, he, hr, h0, h1, b0, d0, b1, d1⟩
theorem lPosition_snoc (xs : List M.Pos) (x : M.Pos) : lPosition xs ++ cPosition x = lPosition (xs ++ [x]) := by simp [lPosition]
@[reducible] def cSown (x : M.Sw) : List Ty := [Ty.ints 2 x.pits, Ty.ints 2 x.stores, Ty.int x.last, Ty.int x.laps]
def lSown (xs : List M.Sw) : List Ty := xs.flatMap cSown
theorem lSown_length (xs : List M.Sw) : (lSown xs).length = xs.length * 4 := flat_len cSown 4 (fun _ => rfl) xs
instance : LenL lSown 4 := ⟨lSown_length⟩
@[reducible] def csowing (x : M.Sow) : List Ty := [Ty.int x.rules.pits, Ty.int x.rules.seeds, Ty.bool x.rules.stores, Ty.bool x.rules.skip, Ty.bool x.rules.relay, Ty.bool x.rules.feed, Ty.bool x.rules.again, Ty.int x.rules.capture, Ty.int x.rules.slam, Ty.int x.player, Ty.ints 2 x.sown.pits, Ty.ints 2 x.sown.stores, Ty.int x.sown.last, Ty.int x.sown.laps, Ty.ints 2 x.path]
theorem ref_sowing {u : World} {v : Value} {x : M.Sow} (h : (Ty.ref (csowing x)).ok u v) : ∃ b o A10 c10 A11 c11 A14 c14, v = .pointer (some ⟨b, o, none⟩) ∧ RowAt u b o [.int .i64 x.rules.pits, .int .i64 x.rules.seeds, .bool x.rules.stores, .bool x.rules.skip, .bool x.rules.relay, .bool x.rules.feed, .bool x.rules.again, .int .i64 x.rules.capture, .int .i64 x.rules.slam, .int .i64 x.player, .slice A10 x.sown.pits.length c10, .slice A11 x.sown.stores.length c11, .int .i64 x.sown.last, .int .i64 x.sown.laps, .slice A14 x.path.length c14] ∧ (Ty.ints 2 x.sown.pits).ok u (.slice A10 x.sown.pits.length c10) ∧ (Ty.ints 2 x.sown.stores).ok u (.slice A11 x.sown.stores.length c11) ∧ (Ty.ints 2 x.path).ok u (.slice A14 x.path.length c14) ∧ x.sown.pits.length ≤ c10 ∧ c10 ≤ 9223372036854775807 ∧ x.sown.stores.length ≤ c11 ∧ c11 ≤ 9223372036854775807 ∧ x.path.length ≤ c14 ∧ c14 ≤ 9223372036854775807 := by
  obtain ⟨b, o, vs, rfl, h, hr⟩ := h
  obtain ⟨x0, r, rfl, h0, h⟩ := cellsOk_cons h
  obtain ⟨x1, r, rfl, h1, h⟩ := cellsOk_cons h
  obtain ⟨x2, r, rfl, h2, h⟩ := cellsOk_cons h
  obtain ⟨x3, r, rfl, h3, h⟩ := cellsOk_cons h
  obtain ⟨x4, r, rfl, h4, h⟩ := cellsOk_cons h
  obtain ⟨x5, r, rfl, h5, h⟩ := cellsOk_cons h
  obtain ⟨x6, r, rfl, h6, h⟩ := cellsOk_cons h
  obtain ⟨x7, r, rfl, h7, h⟩ := cellsOk_cons h
  obtain ⟨x8, r, rfl, h8, h⟩ := cellsOk_cons h
  obtain ⟨x9, r, rfl, h9, h⟩ := cellsOk_cons h
  obtain ⟨x10, r, rfl, h10, h⟩ := cellsOk_cons h
  obtain ⟨x11, r, rfl, h11, h⟩ := cellsOk_cons h
  obtain ⟨x12, r, rfl, h12, h⟩ := cellsOk_cons h
  obtain ⟨x13, r, rfl, h13, h⟩ := cellsOk_cons h
  obtain ⟨x14, r, rfl, h14, h⟩ := cellsOk_cons h
  obtain rfl := cellsOk_nil h
  obtain rfl : x0 = .int .i64 x.rules.pits := h0
  obtain rfl : x1 = .int .i64 x.rules.seeds := h1
  obtain rfl : x2 = .bool x.rules.stores := h2
  obtain rfl : x3 = .bool x.rules.skip := h3
  obtain rfl : x4 = .bool x.rules.relay := h4
  obtain rfl : x5 = .bool x.rules.feed := h5
  obtain rfl : x6 = .bool x.rules.again := h6
  obtain rfl : x7 = .int .i64 x.rules.capture := h7
  obtain rfl : x8 = .int .i64 x.rules.slam := h8
  obtain rfl : x9 = .int .i64 x.player := h9
  obtain ⟨A10, c10, rfl, b10, d10⟩ := sl_form h10
  obtain ⟨A11, c11, rfl, b11, d11⟩ := sl_form h11
  obtain rfl : x12 = .int .i64 x.sown.last := h12
  obtain rfl : x13 = .int .i64 x.sown.laps := h13
  obtain ⟨A14, c14, rfl, b14, d14⟩ := sl_form h14
  exact ⟨b, o, A10, c10, A11, c11, A14, c14, rfl, hr, h10, h11, h14, b10, d10, b11, d11, b14, d14⟩
def lsowing (xs : List M.Sow) : List Ty := xs.flatMap csowing
theorem lsowing_length (xs : List M.Sow) : (lsowing xs).length = xs.length * 15 := flat_len csowing 15 (fun _ => rfl) xs
instance : LenL lsowing 15 := ⟨lsowing_length⟩
@[reducible] def cResult (x : M.Res) : List Ty := [Ty.int x.move, Ty.int x.gain, Ty.bool x.again, Ty.ints 2 x.next.pits, Ty.ints 2 x.next.stores, Ty.int x.next.player]
def lResult (xs : List M.Res) : List Ty := xs.flatMap cResult
theorem lResult_length (xs : List M.Res) : (lResult xs).length = xs.length * 6 := flat_len cResult 6 (fun _ => rfl) xs
instance : LenL lResult 6 := ⟨lResult_length⟩
theorem elem_Result {u : World} {e c i : Nat} {A : Option Addr} {xs : List M.Res} {x : M.Res} (h : (Ty.sl e 6 xs.length (lResult xs)).ok u (.slice A xs.length c)) (hi : xs[i]? = some x) : ∃ b o A3 c3 A4 c4, elemA 6 (.slice A xs.length c) i = some ⟨b, o, none⟩ ∧ RowAt u b o [.int .i64 x.move, .int .i64 x.gain, .bool x.again, .slice A3 x.next.pits.length c3, .slice A4 x.next.stores.length c4, .int .i64 x.next.player] ∧ (Ty.ints 2 x.next.pits).ok u (.slice A3 x.next.pits.length c3) ∧ (Ty.ints 2 x.next.stores).ok u (.slice A4 x.next.stores.length c4) ∧ x.next.pits.length ≤ c3 ∧ c3 ≤ 9223372036854775807 ∧ x.next.stores.length ≤ c4 ∧ c4 ≤ 9223372036854775807 := by
  obtain ⟨b, o, vs, he, h, hr⟩ := sl_elem h (List.getElem?_eq_some_iff.1 hi).1 rfl
  have e := drop_flat cResult 6 (fun _ => rfl) xs i x hi
  unfold lResult at h
  rw [e] at h
  obtain ⟨x0, r, rfl, h0, h⟩ := cellsOk_cons h
  obtain ⟨x1, r, rfl, h1, h⟩ := cellsOk_cons h
  obtain ⟨x2, r, rfl, h2, h⟩ := cellsOk_cons h
  obtain ⟨x3, r, rfl, h3, h⟩ := cellsOk_cons h
  obtain ⟨x4, r, rfl, h4, h⟩ := cellsOk_cons h
  obtain ⟨x5, r, rfl, h5, h⟩ := cellsOk_cons h
  obtain rfl := cellsOk_nil h
  obtain rfl : x0 = .int .i64 x.move := h0
  obtain rfl : x1 = .int .i64 x.gain := h1
  obtain rfl : x2 = .bool x.again := h2
  obtain ⟨A3, c3, rfl, b3, d3⟩ := sl_form h3
  obtain ⟨A4, c4, rfl, b4, d4⟩ := sl_form h4
  obtain rfl : x5 = .int .i64 x.next.player := h5
  exact ⟨b, o, A3, c3, A4, c4, he, hr, h3, h4, b3, d3, b4, d4⟩
theorem elemv_Result {w : World} {i : Nat} {xs : List M.Res} {x : M.Res} {vs : List Value} (h : cellsOk w (lResult xs) vs) (hi : xs[i]? = some x) : ∃ A3 c3 A4 c4, (vs.drop (0 + i * 6)).take 6 = [.int .i64 x.move, .int .i64 x.gain, .bool x.again, .slice A3 x.next.pits.length c3, .slice A4 x.next.stores.length c4, .int .i64 x.next.player] ∧ x.next.pits.length ≤ c3 ∧ c3 ≤ 9223372036854775807 ∧ x.next.stores.length ≤ c4 ∧ c4 ≤ 9223372036854775807 := by
  rw [Nat.zero_add]
  have h := cellsOk.take 6 (cellsOk.drop (i * 6) h)
  rw [lResult, drop_flat cResult 6 (fun _ => rfl) xs i x hi] at h
  generalize (vs.drop (i * 6)).take 6 = vs at h ⊢
  obtain ⟨x0, r, rfl, h0, h⟩ := cellsOk_cons h
  obtain ⟨x1, r, rfl, h1, h⟩ := cellsOk_cons h
  obtain ⟨x2, r, rfl, h2, h⟩ := cellsOk_cons h
  obtain ⟨x3, r, rfl, h3, h⟩ := cellsOk_cons h
  obtain ⟨x4, r, rfl, h4, h⟩ := cellsOk_cons h
  obtain ⟨x5, r, rfl, h5, h⟩ := cellsOk_cons h
  obtain rfl := cellsOk_nil h
  obtain rfl : x0 = .int .i64 x.move := h0
  obtain rfl : x1 = .int .i64 x.gain := h1
  obtain rfl : x2 = .bool x.again := h2
  obtain ⟨A3, c3, rfl, b3, d3⟩ := sl_form h3
  obtain ⟨A4, c4, rfl, b4, d4⟩ := sl_form h4
  obtain rfl : x5 = .int .i64 x.next.player := h5
  exact ⟨A3, c3, A4, c4, rfl, b3, d3, b4, d4⟩
theorem lResult_snoc (xs : List M.Res) (x : M.Res) : lResult xs ++ cResult x = lResult (xs ++ [x]) := by simp [lResult]
theorem pack_Result {w : World} {x : M.Res} {v1 v2 : Value} {f1 f2 : List Nat} (h1 : (Ty.ints 2 x.next.pits).own w v1 f1) (h2 : (Ty.ints 2 x.next.stores).own w v2 f2) : cellsOwn w (cResult x) [.int .i64 x.move, .int .i64 x.gain, .bool x.again, v1, v2, .int .i64 x.next.player] (f1 ++ f2) :=
  ⟨[], f1 ++ f2, rfl, ⟨rfl, rfl⟩, ⟨[], f1 ++ f2, rfl, ⟨rfl, rfl⟩, ⟨[], f1 ++ f2, rfl, ⟨rfl, rfl⟩, ⟨f1, f2, rfl, h1, ⟨f2, [], (List.append_nil _).symm, h2, ⟨[], [], rfl, ⟨rfl, rfl⟩, rfl⟩⟩⟩⟩⟩⟩
@[reducible] def cResultL (x : M.Res) : List Ty := [Ty.int x.move, Ty.int x.gain, Ty.bool x.again, Ty.any, Ty.any, Ty.any]
def lResultL (xs : List M.Res) : List Ty := xs.flatMap cResultL
theorem lResultL_length (xs : List M.Res) : (lResultL xs).length = xs.length * 6 := flat_len cResultL 6 (fun _ => rfl) xs
instance : LenL lResultL 6 := ⟨lResultL_length⟩
theorem elem_ResultL {u : World} {e c i : Nat} {A : Option Addr} {xs : List M.Res} {x : M.Res} (h : (Ty.sl e 6 xs.length (lResultL xs)).ok u (.slice A xs.length c)) (hi : xs[i]? = some x) : ∃ b o V3 V4 V5, elemA 6 (.slice A xs.length c) i = some ⟨b, o, none⟩ ∧ RowAt u b o [.int .i64 x.move, .int .i64 x.gain, .bool x.again, V3, V4, V5] ∧ V3.oneCell' = true ∧ V4.oneCell' = true ∧ V5.oneCell' = true := by
  obtain ⟨b, o, vs, he, h, hr⟩ := sl_elem h (List.getElem?_eq_some_iff.1 hi).1 rfl
  have e := drop_flat cResultL 6 (fun _ => rfl) xs i x hi
  unfold lResultL at h
  rw [e] at h
  obtain ⟨x0, r, rfl, h0, h⟩ := cellsOk_cons h
  obtain ⟨x1, r, rfl, h1, h⟩ := cellsOk_cons h
  obtain ⟨x2, r, rfl, h2, h⟩ := cellsOk_cons h
  obtain ⟨x3, r, rfl, h3, h⟩ := cellsOk_cons h
  obtain ⟨x4, r, rfl, h4, h⟩ := cellsOk_cons h
  obtain ⟨x5, r, rfl, h5, h⟩ := cellsOk_cons h
  obtain rfl := cellsOk_nil h
  obtain rfl : x0 = .int .i64 x.move := h0
  obtain rfl : x1 = .int .i64 x.gain := h1
  obtain rfl : x2 = .bool x.again := h2
  exact ⟨b, o, x3, x4, x5, he, hr, h3, h4, h5⟩
theorem lResultL_snoc (xs : List M.Res) (x : M.Res) : lResultL xs ++ cResultL x = lResultL (xs ++ [x]) := by simp [lResultL]
@[reducible] def cOption (x : M.Opt) : List Ty := [Ty.int x.move, Ty.int x.value]
def lOption (xs : List M.Opt) : List Ty := xs.flatMap cOption
theorem lOption_length (xs : List M.Opt) : (lOption xs).length = xs.length * 2 := flat_len cOption 2 (fun _ => rfl) xs
instance : LenL lOption 2 := ⟨lOption_length⟩
@[reducible] def cPuzzle (x : M.Puz) : List Ty := [Ty.int x.rules.pits, Ty.int x.rules.seeds, Ty.bool x.rules.stores, Ty.bool x.rules.skip, Ty.bool x.rules.relay, Ty.bool x.rules.feed, Ty.bool x.rules.again, Ty.int x.rules.capture, Ty.int x.rules.slam, Ty.ints 2 x.position.pits, Ty.ints 2 x.position.stores, Ty.int x.position.player, Ty.int x.depth, Ty.int x.move, Ty.int x.value, Ty.int x.margin]
def lPuzzle (xs : List M.Puz) : List Ty := xs.flatMap cPuzzle
theorem lPuzzle_length (xs : List M.Puz) : (lPuzzle xs).length = xs.length * 16 := flat_len cPuzzle 16 (fun _ => rfl) xs
instance : LenL lPuzzle 16 := ⟨lPuzzle_length⟩
@[reducible] def cPositionL (x : M.Pos) : List Ty := [Ty.rx 2 x.pits, Ty.ints 2 x.stores, Ty.int x.player]
def lPositionL (xs : List M.Pos) : List Ty := xs.flatMap cPositionL
theorem lPositionL_length (xs : List M.Pos) : (lPositionL xs).length = xs.length * 3 := flat_len cPositionL 3 (fun _ => rfl) xs
instance : LenL lPositionL 3 := ⟨lPositionL_length⟩
@[reducible] def cGameL (x : M.Gam) : List Ty := [Ty.int x.rules.pits, Ty.int x.rules.seeds, Ty.bool x.rules.stores, Ty.bool x.rules.skip, Ty.bool x.rules.relay, Ty.bool x.rules.feed, Ty.bool x.rules.again, Ty.int x.rules.capture, Ty.int x.rules.slam, Ty.ints 2 x.start.pits, Ty.ints 2 x.start.stores, Ty.int x.start.player, Ty.ro 2 x.moves, Ty.ints 2 x.now.pits, Ty.ints 2 x.now.stores, Ty.int x.now.player, Ty.int x.resigned]
def lGameL (xs : List M.Gam) : List Ty := xs.flatMap cGameL
theorem lGameL_length (xs : List M.Gam) : (lGameL xs).length = xs.length * 17 := flat_len cGameL 17 (fun _ => rfl) xs
instance : LenL lGameL 17 := ⟨lGameL_length⟩
@[reducible] def cGame (x : M.Gam) : List Ty := [Ty.int x.rules.pits, Ty.int x.rules.seeds, Ty.bool x.rules.stores, Ty.bool x.rules.skip, Ty.bool x.rules.relay, Ty.bool x.rules.feed, Ty.bool x.rules.again, Ty.int x.rules.capture, Ty.int x.rules.slam, Ty.ints 2 x.start.pits, Ty.ints 2 x.start.stores, Ty.int x.start.player, Ty.ints 2 x.moves, Ty.ints 2 x.now.pits, Ty.ints 2 x.now.stores, Ty.int x.now.player, Ty.int x.resigned]
def lGame (xs : List M.Gam) : List Ty := xs.flatMap cGame
theorem lGame_length (xs : List M.Gam) : (lGame xs).length = xs.length * 17 := flat_len cGame 17 (fun _ => rfl) xs
instance : LenL lGame 17 := ⟨lGame_length⟩
open Go.RowKit Go.ChangeShapes Go.WideShapes Go.ChangeAt
theorem cell_of {w : World} {b o : Nat} {x : Value} (h : w.cell? ⟨b, o, none⟩ = some x) : Cell w b o x := by
  unfold World.cell? at h
  split at h
  · rename_i c t f hb
    exact ⟨c, t, f, hb, by simpa using h⟩
  all_goals simp at h
section
variable {H : Type} {enc : TypeId × Value → H} {w : World} {spare : Nat → Bool} {held : Bool} {fuel : Nat} {x : DataW H × List MemPlace} {cs : List Value}
end
section
variable {H : Type} {enc : TypeId × Value → H} {w : World} {spare : Nat → Bool} {held : Bool} {fuel : Nat} {x : DataW H × List MemPlace} {cs : List Value}
theorem byte_wf {n : Int} (h : (Lit.int .u8 n).wf = true) : 0 ≤ n ∧ n ≤ 255 := by
  simp only [Lit.wf, Bool.and_eq_true, decide_eq_true_eq] at h
  first | exact h | (obtain ⟨a, b⟩ := h; constructor <;> simp_all [IntKind.min, IntKind.max] <;> omega)
theorem bytes_ok (w : World) : ∀ (l : List Int), (∀ n ∈ l, 0 ≤ n ∧ n ≤ 255) → cellsOk w (List.replicate l.length Ty.byte) (l.map (fun n => .int .u8 n))
  | [], _ => trivial
  | n :: l, h => ⟨⟨n, rfl, h n (by simp)⟩, bytes_ok w l (fun m hm => h m (by simp [hm]))⟩
theorem rd_bytes {P : Program} {t e : TypeId} (ht : P.underlying t = some (.slice e)) (he : P.underlying e = some (.int .u8)) (hc : P.cellsOf e = 1) (h : DataW.trod enc P w 0 spare held fuel t cs = some x) : ∃ n : Nat, cellsOk w [Ty.bytes e n] cs := by
  rcases open_ints ht he hc h with ⟨rfl, _⟩ | ⟨a, len, cap, zs, rfl, _, hl, hm, hz, _, hcell, hwf⟩
  · exact ⟨0, nil_ok, trivial⟩
  · have hlz : len ≤ zs.length := by rw [hz]; split <;> omega
    have hlen : (zs.take len).length = len := by simp; omega
    refine ⟨len, ⟨by simp, some a, cap, (zs.take len).map (fun n => .int .u8 n), rfl, hl, hm, ?_, fun hp => ?_⟩, trivial⟩
    · have := bytes_ok w (zs.take len) (fun n hn => byte_wf (hwf n (List.mem_of_mem_take hn)))
      rwa [hlen] at this
    have hp : 0 < len := by simpa using hp
    obtain ⟨b, off, spot⟩ := a
    have hspot : spot = none := by simpa [Addr.add] using World.cell?_spot (hcell 0 (by omega))
    subst hspot
    refine ⟨b, off, rfl, fun j v hj => ?_⟩
    simp only [List.getElem?_map, Option.map_eq_some_iff] at hj
    obtain ⟨n, hn, rfl⟩ := hj
    rw [List.getElem?_take] at hn
    split at hn
    · rename_i hjl
      have := hcell j (by omega)
      rw [addr_add] at this
      have e : zs.getD j 0 = n := by simp [List.getD, hn]
      rw [e] at this
      exact cell_of this
    · simp at hn
end
section
variable {H : Type} {enc : TypeId × Value → H} {w : World} {spare : Nat → Bool} {held : Bool} {fuel : Nat} {x : DataW H × List MemPlace} {cs : List Value}
end
section
variable {P : Program} {n lo : Nat} {B : List Nat} {l : Fr} {os : List Own} {u : World} {dst : Option Tmp} {ty : TypeId} {pos : String} {af : Array Edge} {gd : Option (Nat × Bool)}
theorem Mem.rx {i b o c m j : Nat} {e : TypeId} {vs : List Value} {x : Value} (hi : os[i]? = some (rxO e (.slice (some ⟨b, o, none⟩) m c) m vs)) (hx : vs[0 + j * 1]? = some x) : Mem lo B u os fun w => Cell w b (o + j * 1) x := fun w hw => by
  have h : RxRow w e (.slice (some ⟨b, o, none⟩) m c) m vs := hw.prs _ (List.mem_of_getElem? hi)
  rcases h.2 with ⟨h2, h3⟩ | ⟨g, o', cap, cur, h2, hg, h4, h5, h7⟩
  · cases h2
  · cases h2
    refine ⟨cur, e, (0, 0), hg, ?_⟩
    rw [← h7, List.getElem?_take] at hx
    split at hx
    · rw [List.getElem?_drop] at hx
      simpa using hx
    · simp at hx
end
inductive RowX : List Own → TypeId → Value → List Int → Prop
  | a {e : TypeId} {v : Value} {m : Nat} {xs : List Int} {r : List Own} : RowX (rxO e v m (ints_ xs) :: r) e v xs
  | s {e : TypeId} {v : Value} {xs : List Int} {q : Own} {r : List Own} (h : RowX r e v xs) : RowX (q :: r) e v xs
theorem RowX.get {os : List Own} {e : TypeId} {v : Value} {xs : List Int} (h : RowX os e v xs) {w : World} : (∀ o ∈ os, o.pr w) → (Ty.ints e xs).ok w v := by
  induction h with
  | a => intro hp; exact ints_rxok (hp _ List.mem_cons_self)
  | s _ ih => intro hp; exact ih fun q hq => hp q (by simp [hq])
end Go.Proofs.YtjdhgkdimanabaaGreatDoor
namespace Go.Proofs.YtjdhgkdimanabaaGreatDoor.M
def Rng (l : List Int) : Prop := ∀ a ∈ l, -9223372036854775808 ≤ a ∧ a ≤ 9223372036854775807
theorem Rng.nth {l : List Int} (h : Rng l) (k : Nat) : -9223372036854775808 ≤ nth l k ∧ M.nth l k ≤ 9223372036854775807 := by
  by_cases hk : k < l.length
  · exact h _ (nth_mem hk)
  · simp [M.nth, List.getD, List.getElem?_eq_none (Nat.le_of_not_lt hk)]
theorem Rng.ok {l : List Int} (h : allOk l = true) : Rng l := fun a ha => by
  unfold allOk at h; rw [List.all_eq_true] at h
  have := betw_iff.1 (h _ ha); omega
theorem Rng.take {l : List Int} (h : Rng l) (k : Nat) : Rng (l.take k) := fun a ha => h a (List.mem_of_mem_take ha)
theorem Rng.drop {l : List Int} (h : Rng l) (k : Nat) : Rng (l.drop k) := fun a ha => h a (List.mem_of_mem_drop ha)
theorem half {r : Rul} {p : Pos} (h : okP r p = true) : r.pits.toNat = p.pits.length / 2 := by have := okP_bd h; omega
def fNames : List (List UInt8) := [[115, 116, 111, 114, 101, 115], [115, 107, 105, 112], [114, 101, 108, 97, 121], [102, 101, 101, 100], [97, 103, 97, 105, 110]]
def capName (k : Int) : List UInt8 := if k = 0 then [110, 111, 110, 101] else if k = 1 then [116, 119, 111, 45, 116, 104, 114, 101, 101] else if k = 2 then [99, 114, 111, 115, 115] else if k = 3 then [101, 118, 101, 110] else []
def slamName (k : Int) : List UInt8 := if k = 0 then [116, 97, 107, 101] else if k = 1 then [102, 111, 114, 98, 105, 100] else if k = 2 then [110, 111, 116, 104, 105, 110, 103] else []
theorem capName_len (k : Int) : (capName k).length ≤ 9 := by unfold capName; (repeat' split) <;> simp
theorem slamName_len (k : Int) : (slamName k).length ≤ 7 := by unfold slamName; (repeat' split) <;> simp
def flagB (r : Rul) (y : List UInt8) : Bool := if y = [115, 116, 111, 114, 101, 115] then r.stores else if y = [115, 107, 105, 112] then r.skip else if y = [114, 101, 108, 97, 121] then r.relay else if y = [102, 101, 101, 100] then r.feed else if y = [97, 103, 97, 105, 110] then r.again else false
def rulesN (r : Rul) : Nat → List UInt8
  | 0 => [112, 105, 116, 115, 61] ++ dec r.pits ++ [32, 115, 101, 101, 100, 115, 61] ++ dec r.seeds ++ [32, 99, 97, 112, 116, 117, 114, 101, 61] ++ capName r.capture ++ [32, 115, 108, 97, 109, 61] ++ slamName r.slam
  | k + 1 => if flagB r (fNames.getD k []) = true then rulesN r k ++ ([32] ++ fNames.getD k []) else rulesN r k
def rulesT (r : Rul) : List UInt8 := rulesN r 5
theorem rulesN_len (r : Rul) : ∀ k : Nat, k ≤ 5 → (rulesN r k).length ≤ 120 + 7 * k
  | 0, _ => by
    have a := dec_len r.pits; have c := dec_len r.seeds; have d := capName_len r.capture; have e := slamName_len r.slam
    rw [rulesN]; simp only [List.length_append, List.length_cons, List.length_nil]; omega
  | k + 1, hk => by
    have h1 := rulesN_len r k (by omega)
    have h2 : (fNames.getD k []).length ≤ 6 := by
      have : k = 0 ∨ k = 1 ∨ k = 2 ∨ k = 3 ∨ k = 4 := by omega
      rcases this with rfl | rfl | rfl | rfl | rfl <;> decide
    rw [rulesN]; split <;> first | omega | (simp only [List.length_append, List.length_cons, List.length_nil]; omega)
theorem rulesT_len (r : Rul) : (rulesT r).length ≤ 155 := rulesN_len r 5 (Nat.le_refl _)
def recLine (n m g : Int) : List UInt8 := dec n ++ [46, 32] ++ dec m ++ [43] ++ dec g
theorem recLine_len (n m g : Int) : (recLine n m g).length ≤ 66 := by
  have a := dec_len n; have c := dec_len m; have d := dec_len g
  unfold recLine; simp only [List.length_append, List.length_cons, List.length_nil]; omega
theorem runs_get (r : Rul) : ∀ (ms : List Int) (p : Pos) (k : Nat) (y : Res), (runs r p ms)[k]? = some y → y.move = nth ms k ∧ 0 ≤ y.move ∧ y.move ≤ 8 ∧ -96 ≤ y.gain ∧ y.gain ≤ 96
  | [], p, k, y, h => by simp [runs] at h
  | m :: ms, p, k, y, h => by
    rw [runs] at h
    by_cases hz : (make r p m).2 = 0
    · rw [if_pos hz] at h
      cases k with
      | zero =>
        have e : (make r p m).1 = y := Option.some.inj h
        have h1 := make_ok hz; have h2 := make_gain hz; have h3 := okP_bd h1.1
        rw [← e]; exact ⟨h1.2.2.2.2.1, by rw [h1.2.2.2.2.1]; omega, by rw [h1.2.2.2.2.1]; omega, h2.1, h2.2⟩
      | succ k => exact runs_get r ms _ k y h
    · rw [if_neg hz] at h; simp at h
theorem gains_nth {l : List Res} {k : Nat} {y : Res} (h : l[k]? = some y) : nth (gains l) k = y.gain := by
  unfold nth gains; rw [List.getD_eq_getElem?_getD, List.getElem?_map, h]; rfl
end Go.Proofs.YtjdhgkdimanabaaGreatDoor.M
namespace Go.Proofs.YtjdhgkdimanabaaGreatDoor
open Go.RowKit
instance {n : Int} : LenB (M.capName n) 9 := ⟨M.capName_len n⟩
instance {n : Int} : LenB (M.slamName n) 7 := ⟨M.slamName_len n⟩
instance {r : M.Rul} : LenB (M.rulesT r) 155 := ⟨M.rulesT_len r⟩
instance {a b c : Int} : LenB (M.recLine a b c) 66 := ⟨M.recLine_len a b c⟩
theorem strs_cellsok {w : World} : ∀ l : List (List UInt8), cellsOk w (l.map Ty.str) (txs_ l)
  | [] => trivial
  | x :: l => ⟨rfl, strs_cellsok l⟩
theorem strs_rowok {w : World} {e : TypeId} {n : Nat} {v : Value} {xs : List (List UInt8)} {g : List Nat} (h : (rowO e 1 v n (txs_ xs) g).pr w) : (Ty.strs e xs).ok w v := by
  have hl : n = xs.length := by have := h.1; rw [List.length_map] at this; omega
  subst hl
  exact row_ok h (strs_cellsok xs)
def ownsRowS (w : World) (e : TypeId) (v : Value) (n : Nat) (xs : List Value) : Prop :=
  xs.length = n ∧ ∃ g cap cur fz, v = .slice (some ⟨g, 0, none⟩) n cap ∧ w.heap[g]? = some (.cells cur e fz) ∧ (fz.2 = 0 ∨ cap ≤ fz.1) ∧ n ≤ cap ∧ cap ≤ maxLen ∧ cur.size = cap ∧ cur.toList.take n = xs
theorem ownsRowS.cell {w : World} {e : TypeId} {g n cap : Nat} {xs : List Value} (h : ownsRowS w e (.slice (some ⟨g, 0, none⟩) n cap) n xs) (j : Nat) (u : Value) (hu : xs[j]? = some u) : w.cell? ⟨g, j, none⟩ = some u := by
  obtain ⟨_, g', cap', cur, fz, hv, hg, _, _, _, _, ht⟩ := h
  injection hv with hv _ _
  injection hv with hv
  injection hv with hv _ _
  subst hv
  rw [← ht, List.getElem?_take] at hu
  split at hu
  · simp [World.cell?, hg]; simpa using hu
  · cases hu
section
variable {P : Program}
variable {n lo : Nat} {B : List Nat} {l : Fr} {os : List Own} {u : World} {dst : Option Tmp} {ty : TypeId} {pos : String} {af : Array Edge} {gd : Option (Nat × Bool)}
end
end Go.Proofs.YtjdhgkdimanabaaGreatDoor
namespace Go.Proofs.YtjdhgkdimanabaaGreatDoor.M
theorem getI_setI_me {l : List Int} {k v : Int} (h0 : 0 ≤ k) (h : k < l.length) : getI (setI l k v) k = v := by
  have : k.toNat < l.length := by omega
  simp [getI, setI, nth, List.getD, this]
theorem sow_up (r : Rul) {player : Int} (hp : player = 0 ∨ player = 1) (frm : Int) : ∀ (n : Nat) (place : Int) (ps ss path : List Int), ss.length = 2 →
    getI ss player ≤ getI (sow r player frm n place ps ss path).2.2.1 player ∧ (sow r player frm n place ps ss path).2.2.1.length = 2
  | 0, place, ps, ss, path, h => by rw [sow]; exact ⟨Int.le_refl _, h⟩
  | n + 1, place, ps, ss, path, h => by
    rw [sow]; split
    · obtain ⟨a, b⟩ := sow_up r hp frm n (nxt r player frm place) ps (setI ss player (getI ss player + 1)) (path ++ [nxt r player frm place]) (by rw [setI_length, h])
      rw [getI_setI_me (by omega) (by omega)] at a
      exact ⟨by omega, b⟩
    · exact sow_up r hp frm n _ _ ss _ h
theorem mv_up (r : Rul) {player : Int} (hp : player = 0 ∨ player = 1) : ∀ (n : Nat) (frm : Int) (s : Sw) (path : List Int) (x : Sw × List Int), s.stores.length = 2 → mv r player n frm s path = some x →
    getI s.stores player ≤ getI x.1.stores player ∧ x.1.stores.length = 2
  | 0, frm, s, path, x, h2, h => by simp [mv] at h
  | n + 1, frm, s, path, x, h2, h => by
    have hl := sow_up r hp frm (getI s.pits frm).toNat frm (setI s.pits frm 0) s.stores path h2
    have hl : getI s.stores player ≤ getI (lap r player frm s path).1.stores player ∧ (lap r player frm s path).1.stores.length = 2 := hl
    rw [mv] at h
    split at h
    · obtain ⟨a, b⟩ := mv_up r hp n _ _ _ x hl.2 h
      exact ⟨by omega, b⟩
    · injection h with h; subst h; exact hl
theorem sowMove_up {r : Rul} {p : Pos} {move : Int} (h : (sowMove r p move).1 = 0) : getI p.stores p.player ≤ getI (sowMove r p move).2.1.stores p.player ∧ (sowMove r p move).2.1.stores.length = 2 := by
  obtain ⟨ho, _⟩ := sowMove_ok h
  obtain ⟨r1, r2, g1, g2, g3, g4, g5⟩ := okP_bd ho
  unfold sowMove at *
  by_cases hc : sowCode r p move = 0
  case neg => rw [if_pos hc] at h; exact absurd h hc
  rw [if_neg (by simpa using hc)] at h ⊢
  cases hmv : mv r p.player 100 (p.player * r.pits + move) ⟨p.pits, p.stores, 0, 0⟩ [] with
  | none => rw [hmv] at h; simp at h
  | some x => exact mv_up r g5 100 _ ⟨p.pits, p.stores, 0, 0⟩ [] x g2 hmv
theorem isum_nn {l : List Int} (h : ∀ x ∈ l, 0 ≤ x) : 0 ≤ isum l := nn_isum h
theorem make_up {r : Rul} {p : Pos} {move : Int} (h : (make r p move).2 = 0) : 0 ≤ (make r p move).1.gain ∧ (make r p move).1.again = decide (p.player = (make r p move).1.next.player) := by
  have h1 := make_code (r := r) (p := p) (move := move)
  rw [h] at h1
  have hd := h1.symm
  obtain ⟨h2, h3⟩ := done_ok hd
  obtain ⟨hok, _, _, hG, _⟩ := sowMove_ok h2
  obtain ⟨r1, r2, g1, g2, g3, g4, g5⟩ := okP_bd hok
  obtain ⟨hu, hl⟩ := sowMove_up h2
  rw [make_yes hd]
  constructor
  · show 0 ≤ getI (done r p move).1.stores p.player - getI p.stores p.player
    rw [h3]
    show 0 ≤ getI (setI (sowMove r p move).2.1.stores p.player _) p.player - _
    rw [getI_setI_me (by omega) (by omega)]
    have : 0 ≤ isum ((captured r (sowMove r p move).2.1 p.player).map (getI (sowMove r p move).2.1.pits)) := isum_nn fun x hx => by
      obtain ⟨k, _, rfl⟩ := List.mem_map.1 hx
      exact (hG.pit k).1
    omega
  · show (r.again && decide ((done r p move).1.last = -1)) = decide (p.player = if (r.again && decide ((done r p move).1.last = -1)) = true then p.player else 1 - p.player)
    cases (r.again && decide ((done r p move).1.last = -1))
    · simp; omega
    · simp
def noteT (pl mv gn : Int) (ag : Bool) : List UInt8 :=
  if ag = true then (if 0 < gn then ([112, 108, 97, 121, 101, 114, 32] ++ dec pl ++ [32, 112, 108, 97, 121, 115, 32] ++ dec mv) ++ ([44, 32, 103, 97, 105, 110, 115, 32] ++ dec gn) else ([112, 108, 97, 121, 101, 114, 32] ++ dec pl ++ [32, 112, 108, 97, 121, 115, 32] ++ dec mv)) ++ [44, 32, 109, 111, 118, 101, 115, 32, 97, 103, 97, 105, 110]
  else (if 0 < gn then ([112, 108, 97, 121, 101, 114, 32] ++ dec pl ++ [32, 112, 108, 97, 121, 115, 32] ++ dec mv) ++ ([44, 32, 103, 97, 105, 110, 115, 32] ++ dec gn) else ([112, 108, 97, 121, 101, 114, 32] ++ dec pl ++ [32, 112, 108, 97, 121, 115, 32] ++ dec mv))
def notes (l : List (Pos × Res)) : List (List UInt8) := l.map fun x => noteT x.1.player x.2.move x.2.gain x.2.again
@[simp] theorem notes_length (l : List (Pos × Res)) : (notes l).length = l.length := by simp [notes]
theorem zip_get {P : List Pos} {R : List Res} {k : Nat} {p : Pos} {x : Res} (hp : P[k]? = some p) (hx : R[k]? = some x) : (P.zip R)[k]? = some (p, x) := by
  rw [List.getElem?_zip_eq_some]; exact ⟨hp, hx⟩
theorem notes_step {P : List Pos} {R : List Res} {out : List (List UInt8)} {k : Nat} {p : Pos} {x : Res} (h : out = notes ((P.zip R).take k)) (hp : P[k]? = some p) (hx : R[k]? = some x) :
    out ++ [noteT p.player x.move x.gain x.again] = notes ((P.zip R).take (k + 1)) := by
  rw [List.take_add_one, zip_get hp hx, h]; simp [notes]
def gameNotes (g : Gam) : List (List UInt8) := notes ((hist g.start (runs g.rules g.start g.moves)).zip (runs g.rules g.start g.moves))
def gameNotesR (g : Gam) : List (List UInt8) := if okG g = true then gameNotes g else []
theorem gameNotesR_yes {g : Gam} (h : okG g = true) : gameNotesR g = gameNotes g := by unfold gameNotesR; rw [if_pos h]
theorem gameNotesR_no {g : Gam} (h : okG g = false) : gameNotesR g = [] := by unfold gameNotesR; rw [if_neg (by simp [h])]
theorem gameNotes_len {g : Gam} (h : okG g = true) : (gameNotes g).length = g.moves.length := by
  obtain ⟨_, _, _, _, _, _, _, h8, _⟩ := okG_parts h
  unfold gameNotes; rw [notes_length, List.length_zip, hist_length, h8]; omega
theorem gameNotesR_len (g : Gam) : (gameNotesR g).length ≤ 120 := by
  cases h : okG g
  · rw [gameNotesR_no h]; simp
  · rw [gameNotesR_yes h, gameNotes_len h]; exact (okG_parts h).2.1
theorem notes_end {g : Gam} (h : okG g = true) {out : List (List UInt8)} {k : Nat} (ho : out = notes (((hist g.start (runs g.rules g.start g.moves)).zip (runs g.rules g.start g.moves)).take k)) (hk : g.moves.length ≤ k) : out = gameNotesR g := by
  rw [gameNotesR_yes h, ho, gameNotes, List.take_of_length_le]
  obtain ⟨_, _, _, _, _, _, _, h8, _⟩ := okG_parts h
  rw [List.length_zip, hist_length, h8]; omega
theorem runs_make (r : Rul) : ∀ (ms : List Int) (p0 : Pos) (k : Nat) (p : Pos) (x : Res), (hist p0 (runs r p0 ms))[k]? = some p → (runs r p0 ms)[k]? = some x → (make r p (nth ms k)).2 = 0 ∧ x = (make r p (nth ms k)).1
  | [], p0, k, p, x, hp, hx => by simp [runs] at hx
  | m :: ms, p0, k, p, x, hp, hx => by
    rw [runs] at hx hp
    by_cases hz : (make r p0 m).2 = 0
    · rw [if_pos hz] at hx hp
      cases k with
      | zero =>
        have e1 : p0 = p := Option.some.inj hp
        have e2 : (make r p0 m).1 = x := Option.some.inj hx
        subst e1; exact ⟨hz, e2.symm⟩
      | succ k =>
        have hp' : (hist (make r p0 m).1.next (runs r (make r p0 m).1.next ms))[k]? = some p := hp
        exact runs_make r ms _ k p x hp' hx
    · rw [if_neg hz] at hx; simp at hx
theorem hist_next {p0 : Pos} {R : List Res} {k : Nat} {q : Pos} (h : (hist p0 R)[k + 1]? = some q) : ∃ x, R[k]? = some x ∧ x.next = q := by
  have : (R.map (·.next))[k]? = some q := h
  rw [List.getElem?_map] at this
  obtain ⟨x, h1, h2⟩ := Option.map_eq_some_iff.1 this
  exact ⟨x, h1, h2⟩
theorem note_at {g : Gam} {k : Nat} {p : Pos} {x : Res} (hp : (hist g.start (runs g.rules g.start g.moves))[k]? = some p) (hx : (runs g.rules g.start g.moves)[k]? = some x) :
    (p.player = 0 ∨ p.player = 1) ∧ 0 ≤ x.move ∧ x.move ≤ 8 ∧ 0 ≤ x.gain ∧ x.gain ≤ 96 ∧ x.move = nth g.moves k ∧ x.again = decide (p.player = x.next.player) := by
  obtain ⟨h1, h2⟩ := runs_make _ _ _ _ _ _ hp hx
  obtain ⟨a1, a2, a3, a4, a5⟩ := runs_get _ _ _ _ _ hx
  have h3 := make_up h1
  have h4 := make_ok h1
  have h5 := okP_bd h4.1
  rw [← h2] at h3
  exact ⟨h5.2.2.2.2.2.2, a2, a3, h3.1, a5, a1, h3.2⟩
def markT (k : Int) : List UInt8 := if k ≤ 0 then [109, 48] else [109] ++ dec k
def upT (k : Int) (n : Nat) : List (List UInt8) := (List.range n).map fun (i : Nat) => markT (k + (i : Int))
@[simp] theorem upT_length (k : Int) (n : Nat) : (upT k n).length = n := by simp [upT]
theorem not_ne {a b : List UInt8} (h : (!decide (a = b)) = false) : a = b := by simpa using h
theorem eqT_step {a b : List (List UInt8)} {k : Nat} {y z : List UInt8} (h : a.take k = b.take k) (hy : a[k]? = some y) (hz : b[k]? = some z) (e : y = z) : a.take (k + 1) = b.take (k + 1) := by
  rw [List.take_add_one, List.take_add_one, h, hy, hz, e]
theorem eqT_no {a b : List (List UInt8)} {k : Nat} {y z : List UInt8} (hy : a[k]? = some y) (hz : b[k]? = some z) (e : y ≠ z) : decide (a = b) = false := by
  rw [decide_eq_false_iff_not]
  rintro rfl
  exact e (Option.some.inj (hy.symm.trans hz))
theorem eqT_end {a b : List (List UInt8)} {k : Nat} (h : a.take k = b.take k) (h1 : a.length ≤ k) (h2 : a.length = b.length) : a = b := by
  rwa [List.take_of_length_le h1, List.take_of_length_le (by omega)] at h
def bat (a : List UInt8) (i : Nat) : Int := ((a.getD i 0).toNat : Int)
theorem bat_bd (a : List UInt8) (i : Nat) : 0 ≤ bat a i ∧ bat a i ≤ 255 := by
  have := (a.getD i 0).toNat_lt
  unfold bat; omega
def split (by_ : UInt8) : List UInt8 → List (List UInt8)
  | [] => [[]]
  | b :: l => if b = by_ then [] :: split by_ l else match split by_ l with
    | [] => [[b]]
    | w :: ws => (b :: w) :: ws
theorem split_ne (by_ : UInt8) (l : List UInt8) : split by_ l ≠ [] := by
  cases l with
  | nil => simp [split]
  | cons b l =>
    rw [split]; split
    · simp
    · split <;> simp
theorem split_app (by_ : UInt8) : ∀ (p q : List UInt8), by_ ∉ p → split by_ (p ++ by_ :: q) = p :: split by_ q
  | [], q, _ => by rw [List.nil_append, split, if_pos rfl]
  | b :: p, q, h => by
    have hb : b ≠ by_ := fun e => h (by simp [e])
    have := split_app by_ p q (fun hm => h (by simp [hm]))
    rw [List.cons_append, split, if_neg hb, this]
theorem split_last (by_ : UInt8) : ∀ (p : List UInt8), by_ ∉ p → split by_ p = [p]
  | [], _ => rfl
  | b :: p, h => by
    have hb : b ≠ by_ := fun e => h (by simp [e])
    have := split_last by_ p (fun hm => h (by simp [hm]))
    rw [split, if_neg hb, this]
structure SplI (b : UInt8) (s : List UInt8) (f k : Nat) (out : List (List UInt8)) : Prop where
  h : out ++ split b (s.drop f) = split b s
  n : b ∉ (s.drop f).take (k - f)
  l : f ≤ k
theorem SplI.zero (b : UInt8) (s : List UInt8) : SplI b s 0 0 [] := ⟨rfl, by simp, Nat.le_refl _⟩
theorem bat_get {s : List UInt8} {k : Nat} (h : k < s.length) : bat s k = (s[k].toNat : Int) := by simp [bat, List.getD, h]
theorem drop_cut {s : List UInt8} {f k : Nat} (h : k < s.length) (hl : f ≤ k) : s.drop f = (s.drop f).take (k - f) ++ s[k] :: s.drop (k + 1) := by
  have e : (s.drop f).drop (k - f) = s[k] :: s.drop (k + 1) := by rw [List.drop_drop, show f + (k - f) = k by omega]; exact List.drop_eq_getElem_cons h
  rw [← e, List.take_append_drop]
theorem u8_of {b : Int} {x : UInt8} (h : (x.toNat : Int) = b) : x = u8 b := by
  subst h; unfold u8; simp
theorem SplI.hit {b : Int} {s : List UInt8} {f k : Nat} {out : List (List UInt8)} (h : SplI (u8 b) s f k out) (hk : k < s.length) (hb : bat s k = b) : SplI (u8 b) s (k + 1) (k + 1) (out ++ [(s.drop f).take (k - f)]) := by
  have hx : s[k] = u8 b := u8_of (by rw [← hb, bat_get hk])
  refine ⟨?_, by simp, Nat.le_refl _⟩
  have e := drop_cut hk h.l
  rw [hx] at e
  rw [← h.h, e, split_app _ _ _ h.n, ← e]
  simp
theorem SplI.miss {b : Int} {s : List UInt8} {f k : Nat} {out : List (List UInt8)} (h : SplI (u8 b) s f k out) (hk : k < s.length) (h0 : 0 ≤ b) (h1 : b ≤ 255) (hb : bat s k ≠ b) : SplI (u8 b) s f (k + 1) out := by
  refine ⟨h.h, fun hm => ?_, by have := h.l; omega⟩
  have hl := h.l
  have e : (s.drop f).take (k + 1 - f) = (s.drop f).take (k - f) ++ [s[k]] := by
    rw [show k + 1 - f = (k - f) + 1 by omega, List.take_add_one, List.getElem?_drop, show f + (k - f) = k by omega, List.getElem?_eq_getElem hk]; rfl
  rw [e] at hm
  rcases List.mem_append.1 hm with hm | hm
  · exact h.n hm
  · simp only [List.mem_singleton] at hm
    apply hb
    rw [bat_get hk, ← hm]; exact u8_val h0 h1
theorem SplI.done {b : UInt8} {s : List UInt8} {f k : Nat} {out : List (List UInt8)} (h : SplI b s f k out) (hk : s.length ≤ k) : out ++ [s.drop f] = split b s := by
  have hn := h.n
  rw [List.take_of_length_le (by rw [List.length_drop]; omega)] at hn
  rw [← h.h, split_last _ _ hn]
theorem SplI.len {b : UInt8} {s : List UInt8} {f k : Nat} {out : List (List UInt8)} (h : SplI b s f k out) : out.length ≤ (split b s).length := by rw [← h.h, List.length_append]; omega
theorem split_len (b : UInt8) : ∀ s : List UInt8, (split b s).length ≤ s.length + 1
  | [] => by simp [split]
  | x :: s => by
    have := split_len b s
    rw [split]; split
    · simp; omega
    · split
      · simp
      · rename_i h; rw [h] at this; simp at this ⊢; omega
end Go.Proofs.YtjdhgkdimanabaaGreatDoor.M
namespace Go.Proofs.YtjdhgkdimanabaaGreatDoor
open Go.RowKit
section
variable {P : Program} {n lo : Nat} {B : List Nat} {l : Fr} {os : List Own} {u : World} {dst : Option Tmp} {ty : TypeId} {pos : String} {af : Array Edge} {gd : Option (Nat × Bool)} {x y z : Operand} {t : TypeId} {a : List UInt8} {i j : Nat} {k k' : IntKind}
theorem sB_size (a : List UInt8) : (sB a).size = a.length := by simp [sB, ByteArray.size]
theorem sB_extract (a : List UInt8) (i j : Nat) : (sB a).extract i j = sB ((a.drop i).take (j - i)) := ByteArray.extract_mk a i j
theorem p_takeS (hu : P.underlying t = some .string) (hx : opd l x = some (.string (sB a))) (hy : opd l y = some (.int k i)) (h : i ≤ a.length) : OpP P n l ⟨dst, .slice t x none (some y) none, ty, pos, af, gd⟩ (.string (sB (a.take i))) := fun c w ha => by
  have := run_slice_string_h (P := P) w t (sB a) hu k i (by omega) (by rw [sB_size]; omega)
  rw [sB_extract] at this
  simp only [Int.toNat_natCast, Nat.sub_zero, List.drop_zero] at this
  simp only [execOp, Option.map_none, Option.map_some, ha.eval hx, ha.eval hy, Sem.run_bind, run_sliceAt_string _ t _ _ _ _ hu, this, Result.andThen_ok, Sem.run_pure]
theorem p_dropS (hu : P.underlying t = some .string) (hx : opd l x = some (.string (sB a))) (hy : opd l y = some (.int k i)) (h : i ≤ a.length) : OpP P n l ⟨dst, .slice t x (some y) none none, ty, pos, af, gd⟩ (.string (sB (a.drop i))) := fun c w ha => by
  have := run_slice_string_l (P := P) w t (sB a) hu k i (by omega) (by rw [sB_size]; omega)
  rw [sB_extract, sB_size] at this
  simp only [Int.toNat_natCast] at this
  rw [List.take_of_length_le (by simp)] at this
  simp only [execOp, Option.map_none, Option.map_some, ha.eval hx, ha.eval hy, Sem.run_bind, run_sliceAt_string _ t _ _ _ _ hu, this, Result.andThen_ok, Sem.run_pure]
theorem p_midS (hu : P.underlying t = some .string) (hx : opd l x = some (.string (sB a))) (hy : opd l y = some (.int k i)) (hz : opd l z = some (.int k' j)) (h1 : i ≤ j) (h2 : j ≤ a.length) : OpP P n l ⟨dst, .slice t x (some y) (some z) none, ty, pos, af, gd⟩ (.string (sB ((a.drop i).take (j - i)))) := fun c w ha => by
  have := run_slice_string (P := P) w t (sB a) k k' i j hu (by omega) (by omega) (by rw [sB_size]; omega)
  rw [sB_extract] at this
  simp only [Int.toNat_natCast] at this
  simp only [execOp, Option.map_none, Option.map_some, ha.eval hx, ha.eval hy, ha.eval hz, Sem.run_bind, run_sliceAt_string _ t _ _ _ _ hu, this, Result.andThen_ok, Sem.run_pure]
theorem p_byteS (hu : P.underlying t = some .string) (hx : opd l x = some (.string (sB a))) (hy : opd l y = some (.int k i)) (h : i < a.length) : OpP P n l ⟨dst, .index t x y, ty, pos, af, gd⟩ (.int .u8 (M.bat a i)) := fun c w ha => by
  have := run_index_string (P := P) w t (sB a) k i hu
  rw [dif_pos ⟨by omega, by rw [sB_size]; omega⟩] at this
  have e : ((sB a)[(i : Int).toNat]'(by rw [sB_size]; omega)) = a[i] := rfl
  have e2 : M.bat a i = (a[i].toNat : Int) := by simp [M.bat, List.getD, h]
  simp only [execOp, ha.eval hx, ha.eval hy, Sem.run_bind, this, Result.andThen_ok, Sem.run_pure]
  rw [e2]; rfl
end
instance {a : List UInt8} {k i : Nat} [h : LenB a k] : LenB (a.take i) k := ⟨by rw [List.length_take]; have := h.h; omega⟩
instance {a : List UInt8} {k i : Nat} [h : LenB a k] : LenB (a.drop i) k := ⟨by rw [List.length_drop]; have := h.h; omega⟩
end Go.Proofs.YtjdhgkdimanabaaGreatDoor
namespace Go.Proofs.YtjdhgkdimanabaaGreatDoor.M
def isDig (c : Int) : Bool := decide (48 ≤ c) && decide (c ≤ 57)
def numT (s : List UInt8) : List UInt8 := if s ≠ [] ∧ bat s 0 = 45 then s.drop 1 else s
theorem numT_y {s : List UInt8} (h0 : s ≠ []) (h : bat s 0 = 45) : numT s = s.drop 1 := by unfold numT; rw [if_pos ⟨h0, h⟩]
theorem numT_n {s : List UInt8} (h : ¬ (s ≠ [] ∧ bat s 0 = 45)) : numT s = s := by unfold numT; rw [if_neg h]
def numN (t : List UInt8) : Nat → Int
  | 0 => 0
  | k + 1 => 10 * numN t k + (bat t k - 48)
def Digs (t : List UInt8) (k : Nat) : Prop := ∀ i : Nat, i < k → isDig (bat t i) = true
theorem Digs.zero (t : List UInt8) : Digs t 0 := fun i h => absurd h (by omega)
theorem Digs.step {t : List UInt8} {k : Nat} (h : Digs t k) (hk : isDig (bat t k) = true) : Digs t (k + 1) := fun i hi => by
  by_cases e : i = k
  · rw [e]; exact hk
  · exact h i (by omega)
theorem dig_bd {c : Int} (h : isDig c = true) : 48 ≤ c ∧ c ≤ 57 := by unfold isDig at h; simp at h; exact h
theorem numN_bd {t : List UInt8} : ∀ k : Nat, Digs t k → 0 ≤ numN t k ∧ numN t k + 1 ≤ (10 : Int) ^ k
  | 0, _ => by simp [numN]
  | k + 1, h => by
    obtain ⟨a, b⟩ := numN_bd k (fun i hi => h i (by omega))
    obtain ⟨c, d⟩ := dig_bd (h k (by omega))
    rw [numN, Int.pow_succ]
    constructor <;> omega
theorem pow10_le {k m : Nat} (h : k ≤ m) : (10 : Int) ^ k ≤ (10 : Int) ^ m := by
  have : (10 : Nat) ^ k ≤ 10 ^ m := Nat.pow_le_pow_right (by decide) h
  have e : ∀ n : Nat, ((10 ^ n : Nat) : Int) = (10 : Int) ^ n := fun n => by simp
  rw [← e, ← e]; omega
theorem numN_17 {t : List UInt8} {k : Nat} (h : Digs t k) (hk : k ≤ 17) : 0 ≤ numN t k ∧ numN t k ≤ 99999999999999999 := by
  have a := numN_bd k h; have b := pow10_le hk
  have e : (10 : Int) ^ 17 = 100000000000000000 := by decide
  omega
theorem numN_18 {t : List UInt8} {k : Nat} (h : Digs t k) (hk : k ≤ 18) : 0 ≤ numN t k ∧ numN t k ≤ 999999999999999999 := by
  have a := numN_bd k h; have b := pow10_le hk
  have e : (10 : Int) ^ 18 = 1000000000000000000 := by decide
  omega
def numS (s : List UInt8) : Int := if (numT s).length < s.length then -numN (numT s) (numT s).length else numN (numT s) (numT s).length
def digs (t : List UInt8) : Bool := (List.range t.length).all fun i => isDig (bat t i)
theorem digs_yes {t : List UInt8} {k : Nat} (h : Digs t k) (hk : t.length ≤ k) : digs t = true := by
  unfold digs; rw [List.all_eq_true]; intro i hi
  exact h i (by have := List.mem_range.1 hi; omega)
theorem digs_no {t : List UInt8} {k : Nat} (hk : k < t.length) (h : isDig (bat t k) = false) : digs t = false := by
  cases e : digs t
  · rfl
  · unfold digs at e; rw [List.all_eq_true] at e
    have := e k (List.mem_range.2 hk); rw [h] at this; exact absurd this (by simp)
def num (s : List UInt8) : Int × Bool :=
  if (numT s).length < 1 ∨ 18 < (numT s).length then (0, false) else if digs (numT s) = false then (0, false) else if dec (numS s) = s then (numS s, true) else (0, false)
theorem num_len {s : List UInt8} (h : (numT s).length < 1 ∨ 18 < (numT s).length) : num s = (0, false) := by unfold num; rw [if_pos h]
theorem num_dig {s : List UInt8} (h : digs (numT s) = false) : num s = (0, false) := by unfold num; rw [if_pos h]; split <;> rfl
theorem num_no {s : List UInt8} (h : dec (numS s) ≠ s) : num s = (0, false) := by unfold num; rw [if_neg h]; split <;> (try split) <;> rfl
theorem num_yes {s : List UInt8} (h1 : ¬ ((numT s).length < 1 ∨ 18 < (numT s).length)) (h2 : digs (numT s) = true) (h : dec (numS s) = s) : num s = (numS s, true) := by
  unfold num; rw [if_neg h1, if_neg (by simp [h2]), if_pos h]
theorem numS_neg {s : List UInt8} (h : (numT s).length < s.length) : numS s = -numN (numT s) (numT s).length := by unfold numS; rw [if_pos h]
theorem numS_pos {s : List UInt8} (h : ¬ (numT s).length < s.length) : numS s = numN (numT s) (numT s).length := by unfold numS; rw [if_neg h]
def hit (s sep : List UInt8) (k : Nat) : Bool := decide (k + sep.length ≤ s.length) && decide ((s.drop k).take sep.length = sep)
def cutS (s sep : List UInt8) : List UInt8 × List UInt8 × Bool :=
  match (List.range (s.length + 1)).find? (hit s sep) with
  | some k => (s.take k, s.drop (k + sep.length), true)
  | none => (s, [], false)
theorem find_first {p : Nat → Bool} : ∀ {n k : Nat}, k < n → p k = true → (∀ i, i < k → p i = false) → (List.range n).find? p = some k := by
  intro n k hk hp hn
  rw [List.find?_range_eq_some]
  exact ⟨hp, by simpa using hk, fun j hj => by simpa using hn j hj⟩
theorem cutS_yes {s sep : List UInt8} {k : Nat} (hk : k + sep.length ≤ s.length) (h : (s.drop k).take sep.length = sep) (hn : ∀ i, i < k → (s.drop i).take sep.length ≠ sep) : cutS s sep = (s.take k, s.drop (k + sep.length), true) := by
  unfold cutS
  rw [find_first (k := k) (by omega) (by simp [hit, hk, h]) (fun i hi => by simp [hit, hn i hi])]
theorem cutS_no {s sep : List UInt8} {k : Nat} (hk : s.length < k + sep.length) (hn : ∀ i, i < k → (s.drop i).take sep.length ≠ sep) : cutS s sep = (s, [], false) := by
  unfold cutS
  have : (List.range (s.length + 1)).find? (hit s sep) = none := by
    rw [List.find?_eq_none]
    intro i hi
    by_cases h : i < k
    · simp [hit, hn i h]
    · simp [hit]; omega
  rw [this]
theorem miss_step {s sep : List UInt8} {k : Nat} (hn : ∀ i, i < k → (s.drop i).take sep.length ≠ sep) (h : (s.drop k).take sep.length ≠ sep) : ∀ i, i < k + 1 → (s.drop i).take sep.length ≠ sep := fun i hi => by
  by_cases e : i = k
  · rw [e]; exact h
  · exact hn i (by omega)
theorem cutS_len (s sep : List UInt8) : (cutS s sep).1.length ≤ s.length ∧ (cutS s sep).2.1.length ≤ s.length := by
  unfold cutS; split
  · simp only [List.length_take, List.length_drop]; omega
  · simp
theorem hit_one {s : List UInt8} {b : UInt8} {k : Nat} : hit s [b] k = true ↔ s[k]? = some b := by
  unfold hit
  simp only [List.length_cons, List.length_nil, Nat.zero_add, Bool.and_eq_true, decide_eq_true_eq]
  constructor
  · rintro ⟨h1, h2⟩
    have : k < s.length := by omega
    rw [List.drop_eq_getElem_cons this] at h2
    simp only [List.take_succ_cons, List.take_zero, List.cons.injEq, and_true] at h2
    rw [List.getElem?_eq_getElem this, h2]
  · intro h
    obtain ⟨hk, h⟩ := List.getElem?_eq_some_iff.1 h
    refine ⟨by omega, ?_⟩
    rw [List.drop_eq_getElem_cons hk]
    simp [h]
theorem cutS_one (b : UInt8) (s : List UInt8) : ((cutS s [b]).2.2 = true ∧ split b s = (cutS s [b]).1 :: split b (cutS s [b]).2.1 ∧ (cutS s [b]).2.1.length < s.length) ∨ ((cutS s [b]).2.2 = false ∧ split b s = [(cutS s [b]).1]) := by
  unfold cutS
  cases hf : (List.range (s.length + 1)).find? (hit s [b]) with
  | some k =>
    left
    rw [List.find?_range_eq_some] at hf
    obtain ⟨h1, _, h3⟩ := hf
    rw [hit_one] at h1
    obtain ⟨hk, h⟩ := List.getElem?_eq_some_iff.1 h1
    refine ⟨rfl, ?_, by simp; omega⟩
    have e : s = s.take k ++ b :: s.drop (k + 1) := by
      rw [← h, ← List.drop_eq_getElem_cons hk, List.take_append_drop]
    have hm : b ∉ s.take k := fun hm => by
      obtain ⟨i, hi, he⟩ := List.mem_iff_getElem.1 hm
      have hik : i < k := by rw [List.length_take] at hi; omega
      have := h3 i hik
      rw [Bool.not_eq_true', ← Bool.not_eq_true, hit_one] at this
      apply this
      rw [List.getElem_take] at he
      rw [List.getElem?_eq_getElem (by omega), he]
    show split b s = s.take k :: split b (s.drop (k + 1))
    conv => lhs; rw [e]
    exact split_app b _ _ hm
  | none =>
    right
    rw [List.find?_eq_none] at hf
    refine ⟨rfl, split_last b s fun hm => ?_⟩
    obtain ⟨i, hi, he⟩ := List.mem_iff_getElem.1 hm
    have := hf i (by simp; omega)
    apply this
    rw [hit_one, List.getElem?_eq_getElem hi, he]
theorem parts_more {b : UInt8} {s cur : List UInt8} {out : List (List UInt8)} (h : out ++ split b cur = split b s) (hc : (cutS cur [b]).2.2 = true) : (out ++ [(cutS cur [b]).1]) ++ split b (cutS cur [b]).2.1 = split b s ∧ (cutS cur [b]).2.1.length < cur.length := by
  rcases cutS_one b cur with ⟨_, h2, h3⟩ | ⟨h2, _⟩
  · rw [← h, h2]; simp; exact h3
  · rw [hc] at h2; simp at h2
theorem parts_last {b : UInt8} {s cur : List UInt8} {out : List (List UInt8)} (h : out ++ split b cur = split b s) (hc : (cutS cur [b]).2.2 = false) : out ++ [(cutS cur [b]).1] = split b s := by
  rcases cutS_one b cur with ⟨h2, _, _⟩ | ⟨_, h2⟩
  · rw [hc] at h2; simp at h2
  · rw [← h, h2]
theorem parts_len {b : UInt8} {s cur : List UInt8} {out : List (List UInt8)} (h : out ++ split b cur = split b s) : out.length ≤ s.length + 1 := by
  have := split_len b s; rw [← h, List.length_append] at this; omega
theorem split_mem (b : UInt8) : ∀ (s w : List UInt8), w ∈ split b s → w.length ≤ s.length
  | [], w, h => by simp [split] at h; simp [h]
  | x :: s, w, h => by
    rw [split] at h
    split at h
    · rcases List.mem_cons.1 h with rfl | h
      · simp
      · have := split_mem b s w h; simp; omega
    · split at h
      · simp at h; simp [h]
      · rename_i v vs e
        rcases List.mem_cons.1 h with rfl | h
        · have := split_mem b s v (by rw [e]; simp); simp; omega
        · have := split_mem b s w (by rw [e]; simp [h]); simp; omega
def numsOk (l : List (List UInt8)) : Bool := l.all fun w => (num w).2
def numsV (l : List (List UInt8)) : List Int := l.map fun w => (num w).1
def nums (s : List UInt8) : List Int × Bool := if numsOk (split 44 s) = true then (numsV (split 44 s), true) else ([], false)
theorem nums_yes {s : List UInt8} (h : numsOk (split 44 s) = true) : nums s = (numsV (split 44 s), true) := by unfold nums; rw [if_pos h]
theorem nums_step {l : List (List UInt8)} {out : List Int} {k : Nat} {y : List UInt8} (h : out = numsV (l.take k)) (hy : l[k]? = some y) : out ++ [(num y).1] = numsV (l.take (k + 1)) := by
  rw [List.take_add_one, hy, h]; simp [numsV]
theorem numsOk_step {l : List (List UInt8)} {k : Nat} {y : List UInt8} (h : numsOk (l.take k) = true) (hy : l[k]? = some y) (hn : (num y).2 = true) : numsOk (l.take (k + 1)) = true := by
  rw [List.take_add_one, hy]; unfold numsOk at *; rw [List.all_append, h]; simp [hn]
theorem numsOk_no {l : List (List UInt8)} {k : Nat} {y : List UInt8} (hy : l[k]? = some y) (hn : (num y).2 = false) : numsOk l = false := by
  cases e : numsOk l
  · rfl
  · unfold numsOk at e; rw [List.all_eq_true] at e
    have := e y (List.mem_of_getElem? hy); rw [hn] at this; exact absurd this (by simp)
structure NumsI (s cur : List UInt8) (out : List Int) : Prop where
  ok : numsOk (split 44 cur) = numsOk (split 44 s)
  v : out ++ numsV (split 44 cur) = numsV (split 44 s)
theorem NumsI.zero (s : List UInt8) : NumsI s s [] := ⟨rfl, rfl⟩
theorem NumsI.more {s cur : List UInt8} {out : List Int} (h : NumsI s cur out) (hn : (num (cutS cur [44]).1).2 = true) (hc : (cutS cur [44]).2.2 = true) : NumsI s (cutS cur [44]).2.1 (out ++ [(num (cutS cur [44]).1).1]) ∧ (cutS cur [44]).2.1.length < cur.length := by
  rcases cutS_one 44 cur with ⟨_, h2, h3⟩ | ⟨h2, _⟩
  · refine ⟨⟨?_, ?_⟩, h3⟩
    · rw [← h.ok, h2]; simp [numsOk, hn]
    · rw [← h.v, h2]; simp [numsV]
  · rw [hc] at h2; simp at h2
theorem NumsI.last {s cur : List UInt8} {out : List Int} (h : NumsI s cur out) (hn : (num (cutS cur [44]).1).2 = true) (hc : (cutS cur [44]).2.2 = false) : nums s = (out ++ [(num (cutS cur [44]).1).1], true) := by
  rcases cutS_one 44 cur with ⟨h2, _, _⟩ | ⟨_, h2⟩
  · rw [hc] at h2; simp at h2
  · rw [nums_yes (by rw [← h.ok, h2]; simp [numsOk, hn]), ← h.v, h2]; simp [numsV]
theorem NumsI.len {s cur : List UInt8} {out : List Int} (h : NumsI s cur out) : out.length ≤ s.length + 1 := by
  have a := split_len 44 s
  have := congrArg List.length h.v
  rw [List.length_append] at this
  simp only [numsV, List.length_map] at this; omega
def decB (b : UInt8) : Prop := b = 45 ∨ (48 ≤ b.toNat ∧ b.toNat ≤ 57)
theorem decB_dig (d : Nat) (h : d < 10) : decB (UInt8.ofNat (48 + d)) := by
  right
  rw [UInt8.toNat_ofNat', Nat.mod_eq_of_lt (by omega)]
  omega
theorem decDigits_B : ∀ (u : Nat) (b : UInt8), b ∈ Lib.decDigits u → decB b := by
  intro u
  induction u using Nat.strongRecOn with
  | ind u ih =>
    intro b hb
    rw [Lib.decDigits] at hb
    by_cases hs : u < 10
    · rw [dif_pos hs] at hb
      simp only [List.mem_singleton] at hb
      rw [hb]; exact decB_dig u hs
    · rw [dif_neg hs] at hb
      rcases List.mem_append.1 hb with hb | hb
      · exact ih (u / 10) (by omega) b hb
      · simp only [List.mem_singleton] at hb
        rw [hb]; exact decB_dig _ (by omega)
theorem dec_B {n : Int} {b : UInt8} (h : b ∈ dec n) : decB b := by
  unfold dec at h
  split at h
  · unfold Lib.itoa at h
    split at h
    · rcases List.mem_cons.1 h with rfl | h
      · exact .inl rfl
      · exact decDigits_B _ _ h
    · exact decDigits_B _ _ h
  · simp at h
theorem decB_no {b c : UInt8} (h : decB b) (hc : c = 32 ∨ c = 44 ∨ c = 47) : b ≠ c := by
  rintro rfl
  rcases hc with rfl | rfl | rfl <;> (rcases h with h | ⟨h1, h2⟩ <;> first | exact absurd h (by decide) | exact absurd h1 (by decide))
theorem num_dec {s : List UInt8} (h : (num s).2 = true) : dec (num s).1 = s := by
  unfold num at *
  split at h
  · simp at h
  · split at h
    · simp at h
    · split at h
      · rename_i h1 h2 h3; rw [if_neg h1, if_neg h2, if_pos h3]; exact h3
      · simp at h
def joinW (b : UInt8) : List (List UInt8) → List UInt8
  | [] => []
  | [w] => w
  | w :: v :: ws => w ++ b :: joinW b (v :: ws)
theorem joinW_cons (b : UInt8) (w : List UInt8) {ws : List (List UInt8)} (h : ws ≠ []) : joinW b (w :: ws) = w ++ b :: joinW b ws := by
  cases ws with
  | nil => exact absurd rfl h
  | cons v ws => rfl
theorem joinW_split (b : UInt8) : ∀ s : List UInt8, joinW b (split b s) = s
  | [] => rfl
  | x :: s => by
    have ih := joinW_split b s
    rw [split]
    split
    · rename_i e
      rw [joinW_cons b _ (split_ne b s), ih, e]; rfl
    · split
      · rename_i e; exact absurd e (split_ne b s)
      · rename_i w ws e
        rw [e] at ih
        cases ws with
        | nil => show x :: w = x :: s; rw [show w = s from ih]
        | cons v ws =>
          show x :: (w ++ b :: joinW b (v :: ws)) = x :: s
          rw [show w ++ b :: joinW b (v :: ws) = s from ih]
theorem joinW_snoc (b : UInt8) (w : List UInt8) : ∀ {ws : List (List UInt8)}, ws ≠ [] → joinW b (ws ++ [w]) = joinW b ws ++ b :: w
  | [v], _ => rfl
  | v :: u :: ws, _ => by
    show v ++ b :: joinW b (u :: ws ++ [w]) = (v ++ b :: joinW b (u :: ws)) ++ b :: w
    rw [joinW_snoc b w (ws := u :: ws) (by simp)]; simp
theorem dec_no {n : Int} {c : UInt8} (hc : c = 32 ∨ c = 44 ∨ c = 47) : c ∉ dec n := fun h => decB_no (dec_B h) hc rfl
theorem split_joinW (b : UInt8) : ∀ {ws : List (List UInt8)}, ws ≠ [] → (∀ w ∈ ws, b ∉ w) → split b (joinW b ws) = ws
  | [], h, _ => absurd rfl h
  | [w], _, h => split_last b w (h w (by simp))
  | w :: v :: ws, _, h => by
    show split b (w ++ b :: joinW b (v :: ws)) = _
    rw [split_app b w _ (h w (by simp)), split_joinW b (ws := v :: ws) (by simp) (fun u hu => h u (List.mem_cons_of_mem _ hu))]
def w3 (s : List UInt8) (i : Nat) : List UInt8 := (split 32 s).getD i []
def x2 (s : List UInt8) (i : Nat) : List UInt8 := (split 47 (w3 s 1)).getD i []
def d2 (n : Nat) : List UInt8 := if n < 10 then [UInt8.ofNat (48 + n)] else [UInt8.ofNat (48 + n / 10), UInt8.ofNat (48 + n % 10)]
theorem dec_d2 {n : Nat} (h : n < 100) : dec (n : Int) = d2 n := by
  rw [dec_in (by omega) (by omega), Lib.itoa_nonneg]
  unfold d2
  split
  · exact Lib.decDigits_one ‹_›
  · exact Lib.decDigits_two ‹_› h
theorem num_d2 : ∀ n : Fin 97, (¬ ((numT (d2 n)).length < 1 ∨ 18 < (numT (d2 n)).length)) ∧ digs (numT (d2 n)) = true ∧ numS (d2 n) = (n.val : Int) := by decide
theorem num_dec_small {n : Int} (h0 : 0 ≤ n) (h1 : n ≤ 96) : num (dec n) = (n, true) := by
  obtain ⟨m, rfl⟩ := Int.eq_ofNat_of_zero_le h0
  have hm : m < 97 := by omega
  obtain ⟨a, b, c⟩ := num_d2 ⟨m, hm⟩
  rw [dec_d2 (by omega)]
  rw [num_yes a b (by rw [c]; exact dec_d2 (by omega)), c]
def joinB (l : List Int) : Nat → List UInt8
  | 0 => []
  | k + 1 => (if 0 < k then joinB l k ++ [32] else joinB l k) ++ dec (nth l k)
def joinM (l : List Int) : List UInt8 := joinB l l.length
theorem joinB_len (l : List Int) : ∀ k : Nat, (joinB l k).length ≤ 22 * k
  | 0 => by simp [joinB]
  | k + 1 => by
    have h1 := joinB_len l k; have h2 := dec_len (nth l k)
    rw [joinB]; split <;> simp only [List.length_append, List.length_cons, List.length_nil] <;> omega
theorem joinB_p {l : List Int} {o : List UInt8} {k : Nat} (h : o = joinB l k) (hk : 0 < k) : (o ++ [32]) ++ dec (nth l k) = joinB l (k + 1) := by rw [joinB, if_pos hk, h]
theorem joinB_z {l : List Int} {o : List UInt8} {k : Nat} (h : o = joinB l k) (hk : ¬ 0 < k) : o ++ dec (nth l k) = joinB l (k + 1) := by rw [joinB, if_neg hk, h]
theorem joinB_big {l : List Int} {o : List UInt8} {k : Nat} (h : o = joinB l k) (hk : k ≤ 4194304) : o.length ≤ 92274688 := by rw [h]; have := joinB_len l k; omega
theorem joinB_e {l : List Int} {o : List UInt8} {k : Nat} (h : o = joinB l k) (hk : l.length ≤ k) (hk2 : k ≤ l.length) : o = joinM l := by rw [h, joinM, Nat.le_antisymm hk hk2]
theorem joinM_len (l : List Int) : (joinM l).length ≤ 22 * l.length := joinB_len l _
theorem joinB_W (l : List Int) : ∀ k : Nat, k ≤ l.length → joinB l k = joinW 32 ((l.take k).map dec)
  | 0, _ => rfl
  | k + 1, h => by
    have ih := joinB_W l k (by omega)
    have e : l.take (k + 1) = l.take k ++ [nth l k] := by
      rw [List.take_add_one, show l[k]? = some (nth l k) by simp [nth, List.getD, (show k < l.length by omega)]]; rfl
    rw [joinB, e, List.map_append, ih]
    split
    · have hne : (l.take k).map dec ≠ [] := by
        intro h9; have h8 := congrArg List.length h9; rw [List.length_map, List.length_take] at h8; simp only [List.length_nil] at h8; omega
      rw [show [nth l k].map dec = [dec (nth l k)] from rfl, joinW_snoc 32 _ hne]; simp
    · have : k = 0 := by omega
      subst this; rfl
theorem joinM_W (l : List Int) : joinM l = joinW 32 (l.map dec) := by rw [joinM, joinB_W l _ (Nat.le_refl _), List.take_length]
def okMv (l : List Int) : Bool := decide (l.length ≤ 120) && l.all (betw · 0 7)
def movT (l : List Int) : List UInt8 := if okMv l = true then joinM l else []
theorem okMv_no {l : List Int} {k : Nat} (hk : k < l.length) (h : betw (nth l k) 0 7 = false) : okMv l = false := by
  unfold okMv
  have : l.all (betw · 0 7) = false := by
    rw [List.all_eq_false]; exact ⟨nth l k, nth_mem hk, by simp [h]⟩
  rw [this, Bool.and_false]
theorem okMv_len {l : List Int} (h : 120 < l.length) : okMv l = false := by unfold okMv; rw [decide_eq_false (by omega), Bool.false_and]
def MvU (l : List Int) (k : Nat) : Prop := ∀ i : Nat, i < k → betw (nth l i) 0 7 = true
theorem MvU.zero (l : List Int) : MvU l 0 := fun i h => absurd h (by omega)
theorem MvU.step {l : List Int} {k : Nat} (h : MvU l k) (hk : betw (nth l k) 0 7 = true) : MvU l (k + 1) := fun i hi => by
  rcases Nat.lt_succ_iff_lt_or_eq.1 hi with h9 | h9
  · exact h i h9
  · subst h9; exact hk
theorem MvU.done {l : List Int} {k : Nat} (h : MvU l k) (hk : l.length ≤ k) : l.all (betw · 0 7) = true := List.all_eq_true.2 fun x hx => by
  obtain ⟨i, hi⟩ := List.mem_iff_getElem?.1 hx
  have hil := (List.getElem?_eq_some_iff.1 hi).1
  have := h i (by omega)
  rw [show nth l i = x by simp [nth, List.getD, hi]] at this
  exact this
theorem okMv_yes {l : List Int} (h1 : l.length ≤ 120) (h2 : l.all (betw · 0 7) = true) : okMv l = true := by unfold okMv; rw [h2, decide_eq_true h1]; rfl
theorem okMv_l {l : List Int} (h : l.all (betw · 0 7) = true) : okMv l = decide (l.length ≤ 120) := by unfold okMv; rw [h, Bool.and_true]
theorem okMv_rng {l : List Int} (h : okMv l = true) : ∀ x ∈ l, 0 ≤ x ∧ x ≤ 7 := fun x hx => by
  unfold okMv at h; simp only [Bool.and_eq_true] at h
  exact betw_iff.1 (List.all_eq_true.1 h.2 x hx)
theorem movT_yes {l : List Int} (h : okMv l = true) : movT l = joinM l := if_pos h
theorem movT_no {l : List Int} (h : okMv l = false) : movT l = [] := if_neg (by simp [h])
def readM (s : List UInt8) : List Int × Bool := if s = [] then ([], true) else if numsOk (split 32 s) = true ∧ okMv (numsV (split 32 s)) = true then (numsV (split 32 s), true) else ([], false)
theorem readM_nil : readM [] = ([], true) := if_pos rfl
theorem readM_bad {s : List UInt8} (h0 : s ≠ []) (h : numsOk (split 32 s) = false) : readM s = ([], false) := by unfold readM; rw [if_neg h0, if_neg (by simp [h])]
theorem readM_no {s : List UInt8} (h0 : s ≠ []) (h : okMv (numsV (split 32 s)) = false) : readM s = ([], false) := by unfold readM; rw [if_neg h0, if_neg (by simp [h])]
theorem readM_yes {s : List UInt8} (h0 : s ≠ []) (h : numsOk (split 32 s) = true) (h2 : okMv (numsV (split 32 s)) = true) : readM s = (numsV (split 32 s), true) := by unfold readM; rw [if_neg h0, if_pos ⟨h, h2⟩]
theorem numsV_text {s : List UInt8} (h : numsOk (split 32 s) = true) : joinM (numsV (split 32 s)) = s := by
  rw [joinM_W]
  unfold numsV
  rw [List.map_map]
  have : (split 32 s).map (dec ∘ fun w => (num w).1) = split 32 s := by
    conv => rhs; rw [← List.map_id (split 32 s)]
    refine List.map_congr_left fun w hw => ?_
    unfold numsOk at h
    exact num_dec (List.all_eq_true.1 h w hw)
  rw [this]; exact joinW_split 32 s
theorem movT_iff {s : List UInt8} (h0 : s ≠ []) (h : numsOk (split 32 s) = true) : movT (numsV (split 32 s)) = s ↔ okMv (numsV (split 32 s)) = true := by
  constructor
  · intro h9
    cases e : okMv (numsV (split 32 s)) with
    | true => rfl
    | false => rw [movT_no e] at h9; exact absurd h9.symm h0
  · intro h9; rw [movT_yes h9]; exact numsV_text h
theorem readM_text {l : List Int} (h : movT l ≠ []) : readM (movT l) = (l, true) := by
  have hk : okMv l = true := by
    cases e : okMv l with
    | true => rfl
    | false => exact absurd (movT_no e) h
  have hr := okMv_rng hk
  rw [movT_yes hk] at h ⊢
  have hl : l.map dec ≠ [] := by
    intro h9; have : l = [] := List.map_eq_nil_iff.1 h9
    subst this; exact h rfl
  have hs : split 32 (joinM l) = l.map dec := by
    rw [joinM_W]
    exact split_joinW 32 hl fun w hw => by
      obtain ⟨x, _, rfl⟩ := List.mem_map.1 hw
      exact dec_no (.inl rfl)
  have hn : ∀ x ∈ l, num (dec x) = (x, true) := fun x hx => by have := hr x hx; exact num_dec_small (by omega) (by omega)
  have ho : numsOk (split 32 (joinM l)) = true := by
    unfold numsOk; rw [hs, List.all_map, List.all_eq_true]
    intro x hx
    show (num (dec x)).2 = true
    rw [hn x hx]
  have hv : numsV (split 32 (joinM l)) = l := by
    unfold numsV
    rw [hs, List.map_map]
    conv => rhs; rw [← List.map_id l]
    refine List.map_congr_left fun x hx => ?_
    show (num (dec x)).1 = x
    rw [hn x hx]
  rw [readM_yes h ho (by rw [hv]; exact hk), hv]
def faultNames : List (List UInt8) := [[114, 117, 108, 101, 115], [115, 116, 97, 114, 116], [102, 111, 114, 109], [110, 117, 109, 98, 101, 114], [109, 111, 118, 101], [103, 97, 105, 110], [101, 110, 100]]
def faultName (k : Int) : List UInt8 := if betw k 1 7 = true then faultNames.getD (k - 1).toNat [] else []
theorem faultName_no {k : Int} (h : betw k 1 7 = false) : faultName k = [] := if_neg (by simp [h])
theorem faultName_yes {k : Int} {y : List UInt8} (h : betw k 1 7 = true) (hy : faultNames[(k - 1).toNat]? = some y) : faultName k = y := by unfold faultName; rw [if_pos h, List.getD, hy]; rfl
theorem mvt_no {s : List UInt8} (h0 : s ≠ []) (h : numsOk (split 32 s) = true) (h9 : ¬ movT (numsV (split 32 s)) = s) : readM s = ([], false) := readM_no h0 (by
  cases e : okMv (numsV (split 32 s)) with
  | false => rfl
  | true => exact absurd ((movT_iff h0 h).2 e) h9)
theorem mvt_yes {s : List UInt8} (h0 : s ≠ []) (h : numsOk (split 32 s) = true) (h9 : movT (numsV (split 32 s)) = s) : readM s = (numsV (split 32 s), true) := readM_yes h0 h ((movT_iff h0 h).1 h9)
theorem okMv_Rng {l : List Int} (h : okMv l = true) : Rng l := fun a ha => by have := okMv_rng h a ha; omega
theorem okMv_le {l : List Int} (h : okMv l = true) : l.length ≤ 120 := by unfold okMv at h; simp only [Bool.and_eq_true, decide_eq_true_eq] at h; exact h.1
theorem movT_len (l : List Int) : (movT l).length ≤ 2640 := by
  cases h : okMv l with
  | true => rw [movT_yes h]; have := joinM_len l; have := okMv_le h; omega
  | false => rw [movT_no h]; exact Nat.zero_le _
theorem readM_len (s : List UInt8) : (readM s).1.length ≤ s.length + 1 := by
  unfold readM
  split
  · simp
  · split
    · have := split_len 32 s; simp only [numsV, List.length_map]; omega
    · simp
theorem readM_dead (l : List Int) : (!decide (movT l = []) && (!(readM (movT l)).2 || !decide ((readM (movT l)).1 = l))) = false := by
  by_cases h : movT l = []
  · simp [h]
  · rw [readM_text h]; simp
theorem notes_law (g : Gam) : (!decide (okC g = 0) || decide (((gameNotesR g).length : Int) = (g.moves.length : Int))) = true := by
  cases h : okG g with
  | true => rw [gameNotesR_yes h, gameNotes_len h]; simp
  | false => simp [okC, h]
theorem Rng.snoc {l : List Int} {a : Int} (h : Rng l) (ha : -9223372036854775808 ≤ a ∧ a ≤ 9223372036854775807) : Rng (l ++ [a]) := fun x hx => by
  rcases List.mem_append.1 hx with hx | hx
  · exact h x hx
  · rw [List.mem_singleton.1 hx]; exact ha
theorem Rng.of_mem {l : List Int} {a : Int} (h : a ∈ l) (hl : l.all (fun x => decide (-9223372036854775808 ≤ x ∧ x ≤ 9223372036854775807)) = true) : -9223372036854775808 ≤ a ∧ a ≤ 9223372036854775807 := by
  have := List.all_eq_true.1 hl a h
  simpa using this
theorem Rng.rep (n : Nat) : Rng (List.replicate n 0) := fun x hx => by rw [List.eq_of_mem_replicate hx]; decide
end Go.Proofs.YtjdhgkdimanabaaGreatDoor.M
namespace Go.Proofs.YtjdhgkdimanabaaGreatDoor
open Go.RowKit
def RX (w : World) (R : Value → Prop) (e : Ending) (w' : World) : Prop := ∃ v, e = .returned v ∧ R v ∧ Ext w w'
section
variable {P : Program} {n lo : Nat} {B : List Nat} {Q : Exit → Act → World → Prop} {cs : List Code} {K : Act → World → Prop} {ops : Array Oper} {rest : List Oper} {l : Fr} {os os' os1 : List Own} {u : World} {ty : TypeId} {pos : String} {af : Array Edge} {gd : Option (Nat × Bool)} {dst : Option Tmp} {v : Value} {d : Nat}
end
theorem txs_get' {xs : List (List UInt8)} {k : Nat} {y : List UInt8} (h : xs[k]? = some y) : (txs_ xs)[0 + k * 1]? = some (.string (sB y)) := by rw [Nat.zero_add, Nat.mul_one]; simp [txs_, h]
end Go.Proofs.YtjdhgkdimanabaaGreatDoor

/- The table of types of the program, and what the types of the model are. -/
import Derived.Test.YtdhmdaoijnnfjaaGreatDoorZpA2
import Derived.Test.YtdhmdaoijnnfjaaGreatDoorProg
import Derived.ProofKit
import Derived.SizedLaws
import Derived.Test.YtdhmdaoijnnfjaaGreatDoorZpA1
set_option linter.unusedSimpArgs false
set_option linter.unusedVariables false
namespace Go.Proofs.YtdhmdaoijnnfjaaGreatDoor
open Go.RowKit
theorem cellsOk_cons {w : World} {T : Ty} {Ts : List Ty} : ∀ {vs : List Value}, cellsOk w (T :: Ts) vs → ∃ x r, vs = x :: r ∧ T.ok w x ∧ cellsOk w Ts r
  | x :: r, h => ⟨x, r, rfl, h.1, h.2⟩
theorem cellsOk_nil {w : World} : ∀ {vs : List Value}, cellsOk w [] vs → vs = []
  | [], _ => rfl
theorem drop_flat {α β : Type} (f : α → List β) (k : Nat) (hf : ∀ a, (f a).length = k) : ∀ (l : List α) (i : Nat) (a : α), l[i]? = some a → ((l.flatMap f).drop (i * k)).take k = f a
  | x :: l, 0, a, h => by
    simp at h; subst h
    simp [List.flatMap_cons, hf, List.take_append]
  | x :: l, i + 1, a, h => by
    simp at h
    rw [List.flatMap_cons, Nat.succ_mul, Nat.add_comm, ← List.drop_drop, List.drop_left' (hf x)]
    exact drop_flat f k hf l i a h
  | [], _, _, h => by simp at h
theorem flat_len {α β : Type} (f : α → List β) (k : Nat) (hf : ∀ a, (f a).length = k) : ∀ (l : List α), (l.flatMap f).length = l.length * k
  | [] => by simp
  | x :: l => by rw [List.flatMap_cons, List.length_append, hf, flat_len f k hf l, List.length_cons, Nat.succ_mul, Nat.add_comm]
instance ty_2 : TyI Tryz.prog 2 false 1 := ⟨by kernel_rfl⟩
instance ty_4 : TyI Tryz.prog 4 false 1 := ⟨by kernel_rfl⟩
instance ty_9 : TyI Tryz.prog 9 false 1 := ⟨by kernel_rfl⟩
instance ty_23 : TyI Tryz.prog 23 true 9 := ⟨by kernel_rfl⟩
instance ty_24 : TyI Tryz.prog 24 false 1 := ⟨by kernel_rfl⟩
instance ty_26 : TyI Tryz.prog 26 true 3 := ⟨by kernel_rfl⟩
instance ty_32 : TyI Tryz.prog 32 true 9 := ⟨by kernel_rfl⟩
instance ty_33 : TyI Tryz.prog 33 true 3 := ⟨by kernel_rfl⟩
instance ty_42 : TyI Tryz.prog 42 true 17 := ⟨by kernel_rfl⟩
instance ty_46 : TyI Tryz.prog 46 true 17 := ⟨by kernel_rfl⟩
instance ty_71 : TyI Tryz.prog 71 true 6 := ⟨by kernel_rfl⟩
instance ty_115 : TyI Tryz.prog 115 true 4 := ⟨by kernel_rfl⟩
instance ty_141 : TyI Tryz.prog 141 true 6 := ⟨by kernel_rfl⟩
instance ty_182 : TyI Tryz.prog 182 true 15 := ⟨by kernel_rfl⟩
instance fld_23_0 : FldI Tryz.prog 23 0 0 2 false 1 := ⟨by kernel_rfl⟩
instance fld_23_1 : FldI Tryz.prog 23 1 1 2 false 1 := ⟨by kernel_rfl⟩
instance fld_23_2 : FldI Tryz.prog 23 2 2 4 false 1 := ⟨by kernel_rfl⟩
instance fld_23_3 : FldI Tryz.prog 23 3 3 4 false 1 := ⟨by kernel_rfl⟩
instance fld_23_4 : FldI Tryz.prog 23 4 4 4 false 1 := ⟨by kernel_rfl⟩
instance fld_23_5 : FldI Tryz.prog 23 5 5 4 false 1 := ⟨by kernel_rfl⟩
instance fld_23_6 : FldI Tryz.prog 23 6 6 4 false 1 := ⟨by kernel_rfl⟩
instance fld_23_7 : FldI Tryz.prog 23 7 7 2 false 1 := ⟨by kernel_rfl⟩
instance fld_23_8 : FldI Tryz.prog 23 8 8 2 false 1 := ⟨by kernel_rfl⟩
instance fld_26_0 : FldI Tryz.prog 26 0 0 24 false 1 := ⟨by kernel_rfl⟩
instance fld_26_1 : FldI Tryz.prog 26 1 1 24 false 1 := ⟨by kernel_rfl⟩
instance fld_26_2 : FldI Tryz.prog 26 2 2 2 false 1 := ⟨by kernel_rfl⟩
instance fld_32_0 : FldI Tryz.prog 32 0 0 2 false 1 := ⟨by kernel_rfl⟩
instance fld_32_1 : FldI Tryz.prog 32 1 1 2 false 1 := ⟨by kernel_rfl⟩
instance fld_32_2 : FldI Tryz.prog 32 2 2 4 false 1 := ⟨by kernel_rfl⟩
instance fld_32_3 : FldI Tryz.prog 32 3 3 4 false 1 := ⟨by kernel_rfl⟩
instance fld_32_4 : FldI Tryz.prog 32 4 4 4 false 1 := ⟨by kernel_rfl⟩
instance fld_32_5 : FldI Tryz.prog 32 5 5 4 false 1 := ⟨by kernel_rfl⟩
instance fld_32_6 : FldI Tryz.prog 32 6 6 4 false 1 := ⟨by kernel_rfl⟩
instance fld_32_7 : FldI Tryz.prog 32 7 7 2 false 1 := ⟨by kernel_rfl⟩
instance fld_32_8 : FldI Tryz.prog 32 8 8 2 false 1 := ⟨by kernel_rfl⟩
instance fld_33_0 : FldI Tryz.prog 33 0 0 24 false 1 := ⟨by kernel_rfl⟩
instance fld_33_1 : FldI Tryz.prog 33 1 1 24 false 1 := ⟨by kernel_rfl⟩
instance fld_33_2 : FldI Tryz.prog 33 2 2 2 false 1 := ⟨by kernel_rfl⟩
instance fld_42_0 : FldI Tryz.prog 42 0 0 23 true 9 := ⟨by kernel_rfl⟩
instance fld_42_1 : FldI Tryz.prog 42 1 9 26 true 3 := ⟨by kernel_rfl⟩
instance fld_42_2 : FldI Tryz.prog 42 2 12 24 false 1 := ⟨by kernel_rfl⟩
instance fld_42_3 : FldI Tryz.prog 42 3 13 26 true 3 := ⟨by kernel_rfl⟩
instance fld_42_4 : FldI Tryz.prog 42 4 16 2 false 1 := ⟨by kernel_rfl⟩
instance fld_46_0 : FldI Tryz.prog 46 0 0 32 true 9 := ⟨by kernel_rfl⟩
instance fld_46_1 : FldI Tryz.prog 46 1 9 33 true 3 := ⟨by kernel_rfl⟩
instance fld_46_2 : FldI Tryz.prog 46 2 12 24 false 1 := ⟨by kernel_rfl⟩
instance fld_46_3 : FldI Tryz.prog 46 3 13 33 true 3 := ⟨by kernel_rfl⟩
instance fld_46_4 : FldI Tryz.prog 46 4 16 2 false 1 := ⟨by kernel_rfl⟩
instance fld_71_0 : FldI Tryz.prog 71 0 0 2 false 1 := ⟨by kernel_rfl⟩
instance fld_71_1 : FldI Tryz.prog 71 1 1 2 false 1 := ⟨by kernel_rfl⟩
instance fld_71_2 : FldI Tryz.prog 71 2 2 4 false 1 := ⟨by kernel_rfl⟩
instance fld_71_3 : FldI Tryz.prog 71 3 3 33 true 3 := ⟨by kernel_rfl⟩
instance fld_115_0 : FldI Tryz.prog 115 0 0 24 false 1 := ⟨by kernel_rfl⟩
instance fld_115_1 : FldI Tryz.prog 115 1 1 24 false 1 := ⟨by kernel_rfl⟩
instance fld_115_2 : FldI Tryz.prog 115 2 2 2 false 1 := ⟨by kernel_rfl⟩
instance fld_115_3 : FldI Tryz.prog 115 3 3 2 false 1 := ⟨by kernel_rfl⟩
instance fld_182_0 : FldI Tryz.prog 182 0 0 32 true 9 := ⟨by kernel_rfl⟩
instance fld_182_1 : FldI Tryz.prog 182 1 9 2 false 1 := ⟨by kernel_rfl⟩
instance fld_182_2 : FldI Tryz.prog 182 2 10 115 true 4 := ⟨by kernel_rfl⟩
instance fld_182_3 : FldI Tryz.prog 182 3 14 24 false 1 := ⟨by kernel_rfl⟩
instance eI_24 : ElI Tryz.prog 24 2 1 8 [.int .i64 0] := ⟨by kernel_rfl⟩
theorem el_24 : elOf Tryz.prog 24 = some (2, 1, 8, [.int .i64 0]) := ElI.h
instance eI_65 : ElI Tryz.prog 65 71 6 80 [.int .i64 0, .int .i64 0, .bool false, .slice none 0 0, .slice none 0 0, .int .i64 0] := ⟨by kernel_rfl⟩
theorem el_65 : elOf Tryz.prog 65 = some (71, 6, 80, [.int .i64 0, .int .i64 0, .bool false, .slice none 0 0, .slice none 0 0, .int .i64 0]) := ElI.h
instance eI_87 : ElI Tryz.prog 87 9 1 16 [.string ByteArray.empty] := ⟨by kernel_rfl⟩
theorem el_87 : elOf Tryz.prog 87 = some (9, 1, 16, [.string ByteArray.empty]) := ElI.h
instance eI_95 : ElI Tryz.prog 95 33 3 56 [.slice none 0 0, .slice none 0 0, .int .i64 0] := ⟨by kernel_rfl⟩
theorem el_95 : elOf Tryz.prog 95 = some (33, 3, 56, [.slice none 0 0, .slice none 0 0, .int .i64 0]) := ElI.h
instance eI_113 : ElI Tryz.prog 113 5 1 1 [.int .u8 0] := ⟨by kernel_rfl⟩
theorem el_113 : elOf Tryz.prog 113 = some (5, 1, 1, [.int .u8 0]) := ElI.h
instance zero_32 : ZeroI Tryz.prog 32 [.int .i64 0, .int .i64 0, .bool false, .bool false, .bool false, .bool false, .bool false, .int .i64 0, .int .i64 0] := ⟨by kernel_rfl⟩
instance zero_33 : ZeroI Tryz.prog 33 [.slice none 0 0, .slice none 0 0, .int .i64 0] := ⟨by kernel_rfl⟩
instance zero_46 : ZeroI Tryz.prog 46 [.int .i64 0, .int .i64 0, .bool false, .bool false, .bool false, .bool false, .bool false, .int .i64 0, .int .i64 0, .slice none 0 0, .slice none 0 0, .int .i64 0, .slice none 0 0, .slice none 0 0, .slice none 0 0, .int .i64 0, .int .i64 0] := ⟨by kernel_rfl⟩
instance zero_71 : ZeroI Tryz.prog 71 [.int .i64 0, .int .i64 0, .bool false, .slice none 0 0, .slice none 0 0, .int .i64 0] := ⟨by kernel_rfl⟩
instance zero_115 : ZeroI Tryz.prog 115 [.slice none 0 0, .slice none 0 0, .int .i64 0, .int .i64 0] := ⟨by kernel_rfl⟩
instance zero_141 : ZeroI Tryz.prog 141 [.string ByteArray.empty, .string ByteArray.empty, .string ByteArray.empty, .string ByteArray.empty, .string ByteArray.empty, .string ByteArray.empty] := ⟨by kernel_rfl⟩
instance zero_182 : ZeroI Tryz.prog 182 [.int .i64 0, .int .i64 0, .bool false, .bool false, .bool false, .bool false, .bool false, .int .i64 0, .int .i64 0, .int .i64 0, .slice none 0 0, .slice none 0 0, .int .i64 0, .int .i64 0, .slice none 0 0] := ⟨by kernel_rfl⟩
instance flds_33 : FldsI Tryz.prog 33 [(0, 1), (1, 1), (2, 1)] := ⟨by kernel_rfl⟩
instance flds_71 : FldsI Tryz.prog 71 [(0, 1), (1, 1), (2, 1), (3, 3)] := ⟨by kernel_rfl⟩
instance flds_115 : FldsI Tryz.prog 115 [(0, 1), (1, 1), (2, 1), (3, 1)] := ⟨by kernel_rfl⟩
instance flds_182 : FldsI Tryz.prog 182 [(0, 9), (9, 1), (10, 4), (14, 1)] := ⟨by kernel_rfl⟩
instance arr_141 : ArrI Tryz.prog 141 6 1 := ⟨by kernel_rfl⟩
instance fn_17 : FnI Tryz.prog 17 := ⟨by kernel_rfl⟩
instance fn_18 : FnI Tryz.prog 18 := ⟨by kernel_rfl⟩
instance fn_19 : FnI Tryz.prog 19 := ⟨by kernel_rfl⟩
instance fn_20 : FnI Tryz.prog 20 := ⟨by kernel_rfl⟩
instance fn_21 : FnI Tryz.prog 21 := ⟨by kernel_rfl⟩
instance fn_25 : FnI Tryz.prog 25 := ⟨by kernel_rfl⟩
instance fn_35 : FnI Tryz.prog 35 := ⟨by kernel_rfl⟩
instance fn_37 : FnI Tryz.prog 37 := ⟨by kernel_rfl⟩
instance fn_38 : FnI Tryz.prog 38 := ⟨by kernel_rfl⟩
instance fn_39 : FnI Tryz.prog 39 := ⟨by kernel_rfl⟩
instance fn_40 : FnI Tryz.prog 40 := ⟨by kernel_rfl⟩
instance fn_42 : FnI Tryz.prog 42 := ⟨by kernel_rfl⟩
instance fn_43 : FnI Tryz.prog 43 := ⟨by kernel_rfl⟩
instance fn_44 : FnI Tryz.prog 44 := ⟨by kernel_rfl⟩
instance fn_45 : FnI Tryz.prog 45 := ⟨by kernel_rfl⟩
instance fn_46 : FnI Tryz.prog 46 := ⟨by kernel_rfl⟩
instance fn_49 : FnI Tryz.prog 49 := ⟨by kernel_rfl⟩
instance fn_50 : FnI Tryz.prog 50 := ⟨by kernel_rfl⟩
instance fn_51 : FnI Tryz.prog 51 := ⟨by kernel_rfl⟩
instance fn_52 : FnI Tryz.prog 52 := ⟨by kernel_rfl⟩
instance fn_53 : FnI Tryz.prog 53 := ⟨by kernel_rfl⟩
instance fn_54 : FnI Tryz.prog 54 := ⟨by kernel_rfl⟩
instance fn_55 : FnI Tryz.prog 55 := ⟨by kernel_rfl⟩
instance fn_56 : FnI Tryz.prog 56 := ⟨by kernel_rfl⟩
instance fn_57 : FnI Tryz.prog 57 := ⟨by kernel_rfl⟩
instance fn_58 : FnI Tryz.prog 58 := ⟨by kernel_rfl⟩
instance fn_59 : FnI Tryz.prog 59 := ⟨by kernel_rfl⟩
instance fn_61 : FnI Tryz.prog 61 := ⟨by kernel_rfl⟩
instance fn_78 : FnI Tryz.prog 78 := ⟨by kernel_rfl⟩
instance fn_79 : FnI Tryz.prog 79 := ⟨by kernel_rfl⟩
instance fn_80 : FnI Tryz.prog 80 := ⟨by kernel_rfl⟩
instance fn_81 : FnI Tryz.prog 81 := ⟨by kernel_rfl⟩
instance fn_82 : FnI Tryz.prog 82 := ⟨by kernel_rfl⟩
instance fn_84 : FnI Tryz.prog 84 := ⟨by kernel_rfl⟩
instance fn_85 : FnI Tryz.prog 85 := ⟨by kernel_rfl⟩
instance fn_86 : FnI Tryz.prog 86 := ⟨by kernel_rfl⟩
instance fn_88 : FnI Tryz.prog 88 := ⟨by kernel_rfl⟩
instance fn_90 : FnI Tryz.prog 90 := ⟨by kernel_rfl⟩
instance fn_91 : FnI Tryz.prog 91 := ⟨by kernel_rfl⟩
instance fn_92 : FnI Tryz.prog 92 := ⟨by kernel_rfl⟩
instance fn_93 : FnI Tryz.prog 93 := ⟨by kernel_rfl⟩
instance fn_94 : FnI Tryz.prog 94 := ⟨by kernel_rfl⟩
instance fn_95 : FnI Tryz.prog 95 := ⟨by kernel_rfl⟩
instance fn_96 : FnI Tryz.prog 96 := ⟨by kernel_rfl⟩
instance fn_97 : FnI Tryz.prog 97 := ⟨by kernel_rfl⟩
instance fn_98 : FnI Tryz.prog 98 := ⟨by kernel_rfl⟩
instance fn_99 : FnI Tryz.prog 99 := ⟨by kernel_rfl⟩
instance fn_100 : FnI Tryz.prog 100 := ⟨by kernel_rfl⟩
instance fn_101 : FnI Tryz.prog 101 := ⟨by kernel_rfl⟩
instance fn_102 : FnI Tryz.prog 102 := ⟨by kernel_rfl⟩
instance fn_103 : FnI Tryz.prog 103 := ⟨by kernel_rfl⟩
instance fn_104 : FnI Tryz.prog 104 := ⟨by kernel_rfl⟩
instance fn_107 : FnI Tryz.prog 107 := ⟨by kernel_rfl⟩
instance fn_108 : FnI Tryz.prog 108 := ⟨by kernel_rfl⟩
instance fn_118 : FnI Tryz.prog 118 := ⟨by kernel_rfl⟩
instance fn_129 : FnI Tryz.prog 129 := ⟨by kernel_rfl⟩
instance fn_130 : FnI Tryz.prog 130 := ⟨by kernel_rfl⟩
instance fn_131 : FnI Tryz.prog 131 := ⟨by kernel_rfl⟩
instance fn_132 : FnI Tryz.prog 132 := ⟨by kernel_rfl⟩
instance fn_133 : FnI Tryz.prog 133 := ⟨by kernel_rfl⟩
instance fn_134 : FnI Tryz.prog 134 := ⟨by kernel_rfl⟩
instance fn_135 : FnI Tryz.prog 135 := ⟨by kernel_rfl⟩
instance fn_137 : FnI Tryz.prog 137 := ⟨by kernel_rfl⟩
instance fn_138 : FnI Tryz.prog 138 := ⟨by kernel_rfl⟩
instance fn_139 : FnI Tryz.prog 139 := ⟨by kernel_rfl⟩
instance fn_140 : FnI Tryz.prog 140 := ⟨by kernel_rfl⟩
instance fn_141 : FnI Tryz.prog 141 := ⟨by kernel_rfl⟩
instance fn_143 : FnI Tryz.prog 143 := ⟨by kernel_rfl⟩
instance fn_144 : FnI Tryz.prog 144 := ⟨by kernel_rfl⟩
instance fn_145 : FnI Tryz.prog 145 := ⟨by kernel_rfl⟩
instance fn_146 : FnI Tryz.prog 146 := ⟨by kernel_rfl⟩
instance fn_147 : FnI Tryz.prog 147 := ⟨by kernel_rfl⟩
instance fn_148 : FnI Tryz.prog 148 := ⟨by kernel_rfl⟩
instance fn_149 : FnI Tryz.prog 149 := ⟨by kernel_rfl⟩
instance fn_150 : FnI Tryz.prog 150 := ⟨by kernel_rfl⟩
instance fn_151 : FnI Tryz.prog 151 := ⟨by kernel_rfl⟩
instance fn_169 : FnI Tryz.prog 169 := ⟨by kernel_rfl⟩
instance fn_170 : FnI Tryz.prog 170 := ⟨by kernel_rfl⟩
instance fn_175 : FnI Tryz.prog 175 := ⟨by kernel_rfl⟩
instance fn_176 : FnI Tryz.prog 176 := ⟨by kernel_rfl⟩
instance fn_177 : FnI Tryz.prog 177 := ⟨by kernel_rfl⟩
instance fn_178 : FnI Tryz.prog 178 := ⟨by kernel_rfl⟩
instance fn_179 : FnI Tryz.prog 179 := ⟨by kernel_rfl⟩
instance fn_180 : FnI Tryz.prog 180 := ⟨by kernel_rfl⟩
instance fn_181 : FnI Tryz.prog 181 := ⟨by kernel_rfl⟩
instance fn_191 : FnI Tryz.prog 191 := ⟨by kernel_rfl⟩
instance fn_197 : FnI Tryz.prog 197 := ⟨by kernel_rfl⟩
instance fn_198 : FnI Tryz.prog 198 := ⟨by kernel_rfl⟩
instance fn_199 : FnI Tryz.prog 199 := ⟨by kernel_rfl⟩
instance fn_208 : FnI Tryz.prog 208 := ⟨by kernel_rfl⟩
instance fn_211 : FnI Tryz.prog 211 := ⟨by kernel_rfl⟩
instance uI_4 : UndI Tryz.prog 4 (.bool) := ⟨@Tryz.underlying4⟩
theorem und_4 : Tryz.prog.underlying 4 = some (.bool) := UndI.h
instance uI_9 : UndI Tryz.prog 9 (.string) := ⟨@Tryz.underlying9⟩
theorem und_9 : Tryz.prog.underlying 9 = some (.string) := UndI.h
instance uI_10 : UndI Tryz.prog 10 (.string) := ⟨@Tryz.underlying10⟩
instance uI_11 : UndI Tryz.prog 11 (.string) := ⟨@Tryz.underlying11⟩
instance uI_24 : UndI Tryz.prog 24 (.slice 2) := ⟨@Tryz.underlying24⟩
theorem und_24 : Tryz.prog.underlying 24 = some (.slice 2) := UndI.h
instance uI_65 : UndI Tryz.prog 65 (.slice 71) := ⟨@Tryz.underlying65⟩
theorem und_65 : Tryz.prog.underlying 65 = some (.slice 71) := UndI.h
instance uI_87 : UndI Tryz.prog 87 (.slice 9) := ⟨@Tryz.underlying87⟩
instance uI_95 : UndI Tryz.prog 95 (.slice 33) := ⟨@Tryz.underlying95⟩
theorem und_95 : Tryz.prog.underlying 95 = some (.slice 33) := UndI.h
instance uI_113 : UndI Tryz.prog 113 (.slice 5) := ⟨@Tryz.underlying113⟩
theorem und_113 : Tryz.prog.underlying 113 = some (.slice 5) := UndI.h
instance uI_149 : UndI Tryz.prog 149 (.slice 153) := ⟨@Tryz.underlying149⟩
instance uI_223 : UndI Tryz.prog 223 (.slice 244) := ⟨@Tryz.underlying223⟩
instance uI_242 : UndI Tryz.prog 242 (.slice 4) := ⟨@Tryz.underlying242⟩
instance mixI : MixI Tryz.prog := ⟨by kernel_rfl⟩
@[reducible] def cRules (x : M.Rul) : List Ty := [Ty.int x.pits, Ty.int x.seeds, Ty.bool x.stores, Ty.bool x.skip, Ty.bool x.relay, Ty.bool x.feed, Ty.bool x.again, Ty.int x.capture, Ty.int x.slam]
def lRules (xs : List M.Rul) : List Ty := xs.flatMap cRules
theorem lRules_length (xs : List M.Rul) : (lRules xs).length = xs.length * 9 := flat_len cRules 9 (fun _ => rfl) xs
instance : LenL lRules 9 := ⟨lRules_length⟩
@[reducible] def cPosition (x : M.Pos) : List Ty := [Ty.ints 2 x.pits, Ty.ints 2 x.stores, Ty.int x.player]
def lPosition (xs : List M.Pos) : List Ty := xs.flatMap cPosition
theorem lPosition_length (xs : List M.Pos) : (lPosition xs).length = xs.length * 3 := flat_len cPosition 3 (fun _ => rfl) xs
instance : LenL lPosition 3 := ⟨lPosition_length⟩
theorem elem_Position {u : World} {e c i : Nat} {A : Option Addr} {xs : List M.Pos} {x : M.Pos} (h : (Ty.sl e 3 xs.length (lPosition xs)).ok u (.slice A xs.length c)) (hi : xs[i]? = some x) : ∃ b o A0 c0 A1 c1, elemA 3 (.slice A xs.length c) i = some ⟨b, o, none⟩ ∧ RowAt u b o [.slice A0 x.pits.length c0, .slice A1 x.stores.length c1, .int .i64 x.player] ∧ (Ty.ints 2 x.pits).ok u (.slice A0 x.pits.length c0) ∧ (Ty.ints 2 x.stores).ok u (.slice A1 x.stores.length c1) ∧ x.pits.length ≤ c0 ∧ c0 ≤ 9223372036854775807 ∧ x.stores.length ≤ c1 ∧ c1 ≤ 9223372036854775807 := by
  obtain ⟨b, o, vs, he, h, hr⟩ := sl_elem h (List.getElem?_eq_some_iff.1 hi).1 rfl
  have e := drop_flat cPosition 3 (fun _ => rfl) xs i x hi
  unfold lPosition at h
  rw [e] at h
  obtain ⟨x0, r, rfl, h0, h⟩ := cellsOk_cons h
  obtain ⟨x1, r, rfl, h1, h⟩ := cellsOk_cons h
  obtain ⟨x2, r, rfl, h2, h⟩ := cellsOk_cons h
  obtain rfl := cellsOk_nil h
  obtain ⟨A0, c0, rfl, b0, d0⟩ := sl_form h0
  obtain ⟨A1, c1, rfl, b1, d1⟩ := sl_form h1
  obtain rfl : x2 = .int .i64 x.player := h2
  exact ⟨b, o, A0, c0, A1, c1, he, hr, h0, h1, b0, d0, b1, d1⟩
theorem lPosition_snoc (xs : List M.Pos) (x : M.Pos) : lPosition xs ++ cPosition x = lPosition (xs ++ [x]) := by simp [lPosition]
@[reducible] def cSown (x : M.Sw) : List Ty := [Ty.ints 2 x.pits, Ty.ints 2 x.stores, Ty.int x.last, Ty.int x.laps]
def lSown (xs : List M.Sw) : List Ty := xs.flatMap cSown
theorem lSown_length (xs : List M.Sw) : (lSown xs).length = xs.length * 4 := flat_len cSown 4 (fun _ => rfl) xs
instance : LenL lSown 4 := ⟨lSown_length⟩
@[reducible] def csowing (x : M.Sow) : List Ty := [Ty.int x.rules.pits, Ty.int x.rules.seeds, Ty.bool x.rules.stores, Ty.bool x.rules.skip, Ty.bool x.rules.relay, Ty.bool x.rules.feed, Ty.bool x.rules.again, Ty.int x.rules.capture, Ty.int x.rules.slam, Ty.int x.player, Ty.ints 2 x.sown.pits, Ty.ints 2 x.sown.stores, Ty.int x.sown.last, Ty.int x.sown.laps, Ty.ints 2 x.path]
theorem ref_sowing {u : World} {v : Value} {x : M.Sow} (h : (Ty.ref (csowing x)).ok u v) : ∃ b o A10 c10 A11 c11 A14 c14, v = .pointer (some ⟨b, o, none⟩) ∧ RowAt u b o [.int .i64 x.rules.pits, .int .i64 x.rules.seeds, .bool x.rules.stores, .bool x.rules.skip, .bool x.rules.relay, .bool x.rules.feed, .bool x.rules.again, .int .i64 x.rules.capture, .int .i64 x.rules.slam, .int .i64 x.player, .slice A10 x.sown.pits.length c10, .slice A11 x.sown.stores.length c11, .int .i64 x.sown.last, .int .i64 x.sown.laps, .slice A14 x.path.length c14] ∧ (Ty.ints 2 x.sown.pits).ok u (.slice A10 x.sown.pits.length c10) ∧ (Ty.ints 2 x.sown.stores).ok u (.slice A11 x.sown.stores.length c11) ∧ (Ty.ints 2 x.path).ok u (.slice A14 x.path.length c14) ∧ x.sown.pits.length ≤ c10 ∧ c10 ≤ 9223372036854775807 ∧ x.sown.stores.length ≤ c11 ∧ c11 ≤ 9223372036854775807 ∧ x.path.length ≤ c14 ∧ c14 ≤ 9223372036854775807 := by
  obtain ⟨b, o, vs, rfl, h, hr⟩ := h
  obtain ⟨x0, r, rfl, h0, h⟩ := cellsOk_cons h
  obtain ⟨x1, r, rfl, h1, h⟩ := cellsOk_cons h
  obtain ⟨x2, r, rfl, h2, h⟩ := cellsOk_cons h
  obtain ⟨x3, r, rfl, h3, h⟩ := cellsOk_cons h
  obtain ⟨x4, r, rfl, h4, h⟩ := cellsOk_cons h
  obtain ⟨x5, r, rfl, h5, h⟩ := cellsOk_cons h
  obtain ⟨x6, r, rfl, h6, h⟩ := cellsOk_cons h
  obtain ⟨x7, r, rfl, h7, h⟩ := cellsOk_cons h
  obtain ⟨x8, r, rfl, h8, h⟩ := cellsOk_cons h
  obtain ⟨x9, r, rfl, h9, h⟩ := cellsOk_cons h
  obtain ⟨x10, r, rfl, h10, h⟩ := cellsOk_cons h
  obtain ⟨x11, r, rfl, h11, h⟩ := cellsOk_cons h
  obtain ⟨x12, r, rfl, h12, h⟩ := cellsOk_cons h
  obtain ⟨x13, r, rfl, h13, h⟩ := cellsOk_cons h
  obtain ⟨x14, r, rfl, h14, h⟩ := cellsOk_cons h
  obtain rfl := cellsOk_nil h
  obtain rfl : x0 = .int .i64 x.rules.pits := h0
  obtain rfl : x1 = .int .i64 x.rules.seeds := h1
  obtain rfl : x2 = .bool x.rules.stores := h2
  obtain rfl : x3 = .bool x.rules.skip := h3
  obtain rfl : x4 = .bool x.rules.relay := h4
  obtain rfl : x5 = .bool x.rules.feed := h5
  obtain rfl : x6 = .bool x.rules.again := h6
  obtain rfl : x7 = .int .i64 x.rules.capture := h7
  obtain rfl : x8 = .int .i64 x.rules.slam := h8
  obtain rfl : x9 = .int .i64 x.player := h9
  obtain ⟨A10, c10, rfl, b10, d10⟩ := sl_form h10
  obtain ⟨A11, c11, rfl, b11, d11⟩ := sl_form h11
  obtain rfl : x12 = .int .i64 x.sown.last := h12
  obtain rfl : x13 = .int .i64 x.sown.laps := h13
  obtain ⟨A14, c14, rfl, b14, d14⟩ := sl_form h14
  exact ⟨b, o, A10, c10, A11, c11, A14, c14, rfl, hr, h10, h11, h14, b10, d10, b11, d11, b14, d14⟩
def lsowing (xs : List M.Sow) : List Ty := xs.flatMap csowing
theorem lsowing_length (xs : List M.Sow) : (lsowing xs).length = xs.length * 15 := flat_len csowing 15 (fun _ => rfl) xs
instance : LenL lsowing 15 := ⟨lsowing_length⟩
@[reducible] def cResult (x : M.Res) : List Ty := [Ty.int x.move, Ty.int x.gain, Ty.bool x.again, Ty.ints 2 x.next.pits, Ty.ints 2 x.next.stores, Ty.int x.next.player]
def lResult (xs : List M.Res) : List Ty := xs.flatMap cResult
theorem lResult_length (xs : List M.Res) : (lResult xs).length = xs.length * 6 := flat_len cResult 6 (fun _ => rfl) xs
instance : LenL lResult 6 := ⟨lResult_length⟩
theorem elemv_Result {w : World} {i : Nat} {xs : List M.Res} {x : M.Res} {vs : List Value} (h : cellsOk w (lResult xs) vs) (hi : xs[i]? = some x) : ∃ A3 c3 A4 c4, (vs.drop (0 + i * 6)).take 6 = [.int .i64 x.move, .int .i64 x.gain, .bool x.again, .slice A3 x.next.pits.length c3, .slice A4 x.next.stores.length c4, .int .i64 x.next.player] ∧ x.next.pits.length ≤ c3 ∧ c3 ≤ 9223372036854775807 ∧ x.next.stores.length ≤ c4 ∧ c4 ≤ 9223372036854775807 := by
  rw [Nat.zero_add]
  have h := cellsOk.take 6 (cellsOk.drop (i * 6) h)
  rw [lResult, drop_flat cResult 6 (fun _ => rfl) xs i x hi] at h
  generalize (vs.drop (i * 6)).take 6 = vs at h ⊢
  obtain ⟨x0, r, rfl, h0, h⟩ := cellsOk_cons h
  obtain ⟨x1, r, rfl, h1, h⟩ := cellsOk_cons h
  obtain ⟨x2, r, rfl, h2, h⟩ := cellsOk_cons h
  obtain ⟨x3, r, rfl, h3, h⟩ := cellsOk_cons h
  obtain ⟨x4, r, rfl, h4, h⟩ := cellsOk_cons h
  obtain ⟨x5, r, rfl, h5, h⟩ := cellsOk_cons h
  obtain rfl := cellsOk_nil h
  obtain rfl : x0 = .int .i64 x.move := h0
  obtain rfl : x1 = .int .i64 x.gain := h1
  obtain rfl : x2 = .bool x.again := h2
  obtain ⟨A3, c3, rfl, b3, d3⟩ := sl_form h3
  obtain ⟨A4, c4, rfl, b4, d4⟩ := sl_form h4
  obtain rfl : x5 = .int .i64 x.next.player := h5
  exact ⟨A3, c3, A4, c4, rfl, b3, d3, b4, d4⟩
theorem lResult_snoc (xs : List M.Res) (x : M.Res) : lResult xs ++ cResult x = lResult (xs ++ [x]) := by simp [lResult]
theorem pack_Result {w : World} {x : M.Res} {v1 v2 : Value} {f1 f2 : List Nat} (h1 : (Ty.ints 2 x.next.pits).own w v1 f1) (h2 : (Ty.ints 2 x.next.stores).own w v2 f2) : cellsOwn w (cResult x) [.int .i64 x.move, .int .i64 x.gain, .bool x.again, v1, v2, .int .i64 x.next.player] (f1 ++ f2) :=
  ⟨[], f1 ++ f2, rfl, ⟨rfl, rfl⟩, ⟨[], f1 ++ f2, rfl, ⟨rfl, rfl⟩, ⟨[], f1 ++ f2, rfl, ⟨rfl, rfl⟩, ⟨f1, f2, rfl, h1, ⟨f2, [], (List.append_nil _).symm, h2, ⟨[], [], rfl, ⟨rfl, rfl⟩, rfl⟩⟩⟩⟩⟩⟩
@[reducible] def cResultL (x : M.Res) : List Ty := [Ty.int x.move, Ty.int x.gain, Ty.bool x.again, Ty.any, Ty.any, Ty.any]
def lResultL (xs : List M.Res) : List Ty := xs.flatMap cResultL
theorem lResultL_length (xs : List M.Res) : (lResultL xs).length = xs.length * 6 := flat_len cResultL 6 (fun _ => rfl) xs
instance : LenL lResultL 6 := ⟨lResultL_length⟩
theorem lResultL_snoc (xs : List M.Res) (x : M.Res) : lResultL xs ++ cResultL x = lResultL (xs ++ [x]) := by simp [lResultL]
@[reducible] def cOption (x : M.Opt) : List Ty := [Ty.int x.move, Ty.int x.value]
def lOption (xs : List M.Opt) : List Ty := xs.flatMap cOption
theorem lOption_length (xs : List M.Opt) : (lOption xs).length = xs.length * 2 := flat_len cOption 2 (fun _ => rfl) xs
instance : LenL lOption 2 := ⟨lOption_length⟩
@[reducible] def cPuzzle (x : M.Puz) : List Ty := [Ty.int x.rules.pits, Ty.int x.rules.seeds, Ty.bool x.rules.stores, Ty.bool x.rules.skip, Ty.bool x.rules.relay, Ty.bool x.rules.feed, Ty.bool x.rules.again, Ty.int x.rules.capture, Ty.int x.rules.slam, Ty.ints 2 x.position.pits, Ty.ints 2 x.position.stores, Ty.int x.position.player, Ty.int x.depth, Ty.int x.move, Ty.int x.value, Ty.int x.margin]
def lPuzzle (xs : List M.Puz) : List Ty := xs.flatMap cPuzzle
theorem lPuzzle_length (xs : List M.Puz) : (lPuzzle xs).length = xs.length * 16 := flat_len cPuzzle 16 (fun _ => rfl) xs
instance : LenL lPuzzle 16 := ⟨lPuzzle_length⟩
@[reducible] def cPositionL (x : M.Pos) : List Ty := [Ty.rx 2 x.pits, Ty.ints 2 x.stores, Ty.int x.player]
def lPositionL (xs : List M.Pos) : List Ty := xs.flatMap cPositionL
theorem lPositionL_length (xs : List M.Pos) : (lPositionL xs).length = xs.length * 3 := flat_len cPositionL 3 (fun _ => rfl) xs
instance : LenL lPositionL 3 := ⟨lPositionL_length⟩
@[reducible] def cGameL (x : M.Gam) : List Ty := [Ty.int x.rules.pits, Ty.int x.rules.seeds, Ty.bool x.rules.stores, Ty.bool x.rules.skip, Ty.bool x.rules.relay, Ty.bool x.rules.feed, Ty.bool x.rules.again, Ty.int x.rules.capture, Ty.int x.rules.slam, Ty.ints 2 x.start.pits, Ty.ints 2 x.start.stores, Ty.int x.start.player, Ty.ro 2 x.moves, Ty.ints 2 x.now.pits, Ty.ints 2 x.now.stores, Ty.int x.now.player, Ty.int x.resigned]
def lGameL (xs : List M.Gam) : List Ty := xs.flatMap cGameL
theorem lGameL_length (xs : List M.Gam) : (lGameL xs).length = xs.length * 17 := flat_len cGameL 17 (fun _ => rfl) xs
instance : LenL lGameL 17 := ⟨lGameL_length⟩
@[reducible] def cGame (x : M.Gam) : List Ty := [Ty.int x.rules.pits, Ty.int x.rules.seeds, Ty.bool x.rules.stores, Ty.bool x.rules.skip, Ty.bool x.rules.relay, Ty.bool x.rules.feed, Ty.bool x.rules.again, Ty.int x.rules.capture, Ty.int x.rules.slam, Ty.ints 2 x.start.pits, Ty.ints 2 x.start.stores, Ty.int x.start.player, Ty.ints 2 x.moves, Ty.ints 2 x.now.pits, Ty.ints 2 x.now.stores, Ty.int x.now.player, Ty.int x.resigned]
def lGame (xs : List M.Gam) : List Ty := xs.flatMap cGame
theorem lGame_length (xs : List M.Gam) : (lGame xs).length = xs.length * 17 := flat_len cGame 17 (fun _ => rfl) xs
instance : LenL lGame 17 := ⟨lGame_length⟩
end Go.Proofs.YtdhmdaoijnnfjaaGreatDoor

namespace Go.Proofs.YtdhmdaoijnnfjaaGreatDoor
open Go.RowKit Go.ChangeShapes Go.WideShapes Go.ChangeAt
theorem cell_of {w : World} {b o : Nat} {x : Value} (h : w.cell? ⟨b, o, none⟩ = some x) : Cell w b o x := by
  unfold World.cell? at h
  split at h
  · rename_i c t f hb
    exact ⟨c, t, f, hb, by simpa using h⟩
  all_goals simp at h
section
variable {H : Type} {enc : TypeId × Value → H} {w : World} {spare : Nat → Bool} {held : Bool} {fuel : Nat} {x : DataW H × List MemPlace} {cs : List Value}
theorem rd_cat {Ts Us : List Ty} (a s : Nat) (h1 : cellsOk w Ts ((cs.drop a).take s)) (h2 : cellsOk w Us (cs.drop (a + s))) : cellsOk w (Ts ++ Us) (cs.drop a) := by
  have := h1.append h2
  rwa [← List.drop_drop, List.take_append_drop] at this
theorem rd_end {n : Nat} (h : cs.length = n) : cellsOk w [] (cs.drop n) := by rw [List.drop_eq_nil_of_le (by omega)]; trivial
theorem rd_int {P : Program} {t : TypeId} (ht : P.underlying t = some (.int .i64)) (h : DataW.trod enc P w 0 spare held fuel t cs = some x) : ∃ n : Int, cellsOk w [Ty.int n] cs := by
  obtain ⟨n, rfl, _, _⟩ := DataW.trod_int ht h
  exact ⟨n, rfl, trivial⟩
theorem rd_bool {P : Program} {t : TypeId} (ht : P.underlying t = some .bool) (h : DataW.trod enc P w 0 spare held fuel t cs = some x) : ∃ b : Bool, cellsOk w [Ty.bool b] cs := by
  obtain ⟨b, rfl, _⟩ := DataW.trod_bool ht h
  exact ⟨b, rfl, trivial⟩
theorem rd_ints {P : Program} {t e : TypeId} (ht : P.underlying t = some (.slice e)) (he : P.underlying e = some (.int .i64)) (hc : P.cellsOf e = 1) (h : DataW.trod enc P w 0 spare held fuel t cs = some x) : ∃ xs : List Int, cellsOk w [Ty.ints e xs] cs := by
  rcases open_ints ht he hc h with ⟨rfl, _⟩ | ⟨a, len, cap, zs, rfl, _, hl, hm, hz, _, hcell, _⟩
  · exact ⟨[], nil_ok, trivial⟩
  · have hlz : len ≤ zs.length := by rw [hz]; split <;> omega
    have hlen : (zs.take len).length = len := by simp; omega
    refine ⟨zs.take len, ⟨by simp, some a, cap, ints_ (zs.take len), by rw [hlen], by rw [hlen]; exact hl, hm, (ints_own w _).ok, fun hp => ?_⟩, trivial⟩
    have hp : 0 < len := by rw [List.length_map, hlen] at hp; exact hp
    obtain ⟨b, off, spot⟩ := a
    have hspot : spot = none := by simpa [Addr.add] using World.cell?_spot (hcell 0 (by omega))
    subst hspot
    refine ⟨b, off, rfl, fun j v hj => ?_⟩
    simp only [ints_, List.getElem?_map, Option.map_eq_some_iff] at hj
    obtain ⟨n, hn, rfl⟩ := hj
    rw [List.getElem?_take] at hn
    split at hn
    · rename_i hjl
      have := hcell j (by omega)
      rw [addr_add] at this
      have e : zs.getD j 0 = n := by simp [List.getD, hn]
      rw [e] at this
      exact cell_of this
    · simp at hn
end
end Go.Proofs.YtdhmdaoijnnfjaaGreatDoor

namespace Go.Proofs.YtdhmdaoijnnfjaaGreatDoor
open Go.RowKit Go.ChangeShapes Go.WideShapes Go.ChangeAt
section
variable {H : Type} {enc : TypeId × Value → H} {w : World} {spare : Nat → Bool} {held : Bool} {fuel : Nat} {x : DataW H × List MemPlace} {cs : List Value}
end
end Go.Proofs.YtdhmdaoijnnfjaaGreatDoor


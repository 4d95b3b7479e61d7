/- The table of types of the program, and what the types of the model are. -/
import Derived.Test.YtcmfnlleikcpnaaGreatZvA2
import Derived.Test.YtcmfnlleikcpnaaGreatProg
import Derived.ProofKit
import Derived.SizedLaws
import Derived.Test.YtcmfnlleikcpnaaGreatZvA1
set_option linter.unusedSimpArgs false
set_option linter.unusedVariables false
namespace Go.Proofs.YtcmfnlleikcpnaaGreat
open Go.RowKit
theorem cellsOk_cons {w : World} {T : Ty} {Ts : List Ty} : ∀ {vs : List Value}, cellsOk w (T :: Ts) vs → ∃ x r, vs = x :: r ∧ T.ok w x ∧ cellsOk w Ts r
  | x :: r, h => ⟨x, r, rfl, h.1, h.2⟩
theorem cellsOk_nil {w : World} : ∀ {vs : List Value}, cellsOk w [] vs → vs = []
  | [], _ => rfl
theorem cellsOwn_cons {w : World} {T : Ty} {Ts : List Ty} {fp : List Nat} : ∀ {vs : List Value}, cellsOwn w (T :: Ts) vs fp → ∃ x r f1 f2, vs = x :: r ∧ fp = f1 ++ f2 ∧ T.own w x f1 ∧ cellsOwn w Ts r f2
  | x :: r, ⟨f1, f2, e, a, b⟩ => ⟨x, r, f1, f2, rfl, e, a, b⟩
theorem cellsOwn_nil {w : World} {fp : List Nat} : ∀ {vs : List Value}, cellsOwn w [] vs fp → vs = [] ∧ fp = []
  | [], h => ⟨rfl, h⟩
theorem drop_flat {α β : Type} (f : α → List β) (k : Nat) (hf : ∀ a, (f a).length = k) : ∀ (l : List α) (i : Nat) (a : α), l[i]? = some a → ((l.flatMap f).drop (i * k)).take k = f a
  | x :: l, 0, a, h => by
    simp at h; subst h
    simp [List.flatMap_cons, hf, List.take_append]
  | x :: l, i + 1, a, h => by
    simp at h
    rw [List.flatMap_cons, Nat.succ_mul, Nat.add_comm, ← List.drop_drop, List.drop_left' (hf x)]
    exact drop_flat f k hf l i a h
  | [], _, _, h => by simp at h
theorem flat_len {α β : Type} (f : α → List β) (k : Nat) (hf : ∀ a, (f a).length = k) : ∀ (l : List α), (l.flatMap f).length = l.length * k
  | [] => by simp
  | x :: l => by rw [List.flatMap_cons, List.length_append, hf, flat_len f k hf l, List.length_cons, Nat.succ_mul, Nat.add_comm]
instance ty_2 : TyI Tryz.prog 2 false 1 := ⟨by kernel_rfl⟩
instance ty_3 : TyI Tryz.prog 3 false 1 := ⟨by kernel_rfl⟩
instance ty_4 : TyI Tryz.prog 4 false 1 := ⟨by kernel_rfl⟩
instance ty_5 : TyI Tryz.prog 5 false 1 := ⟨by kernel_rfl⟩
instance ty_9 : TyI Tryz.prog 9 false 1 := ⟨by kernel_rfl⟩
instance ty_27 : TyI Tryz.prog 27 false 1 := ⟨by kernel_rfl⟩
instance ty_34 : TyI Tryz.prog 34 true 9 := ⟨by kernel_rfl⟩
instance ty_35 : TyI Tryz.prog 35 false 1 := ⟨by kernel_rfl⟩
instance ty_37 : TyI Tryz.prog 37 true 10 := ⟨by kernel_rfl⟩
instance ty_39 : TyI Tryz.prog 39 true 3 := ⟨by kernel_rfl⟩
instance ty_56 : TyI Tryz.prog 56 true 17 := ⟨by kernel_rfl⟩
instance ty_61 : TyI Tryz.prog 61 false 1 := ⟨by kernel_rfl⟩
instance ty_67 : TyI Tryz.prog 67 false 1 := ⟨by kernel_rfl⟩
instance ty_81 : TyI Tryz.prog 81 true 3 := ⟨by kernel_rfl⟩
instance ty_89 : TyI Tryz.prog 89 true 2 := ⟨by kernel_rfl⟩
instance ty_101 : TyI Tryz.prog 101 true 6 := ⟨by kernel_rfl⟩
instance ty_162 : TyI Tryz.prog 162 true 4 := ⟨by kernel_rfl⟩
instance ty_187 : TyI Tryz.prog 187 false 1 := ⟨by kernel_rfl⟩
instance ty_189 : TyI Tryz.prog 189 true 3 := ⟨by kernel_rfl⟩
instance ty_216 : TyI Tryz.prog 216 true 15 := ⟨by kernel_rfl⟩
instance fld_34_0 : FldI Tryz.prog 34 0 0 2 false 1 := ⟨by kernel_rfl⟩
instance fld_34_1 : FldI Tryz.prog 34 1 1 2 false 1 := ⟨by kernel_rfl⟩
instance fld_34_2 : FldI Tryz.prog 34 2 2 4 false 1 := ⟨by kernel_rfl⟩
instance fld_34_3 : FldI Tryz.prog 34 3 3 4 false 1 := ⟨by kernel_rfl⟩
instance fld_34_4 : FldI Tryz.prog 34 4 4 4 false 1 := ⟨by kernel_rfl⟩
instance fld_34_5 : FldI Tryz.prog 34 5 5 4 false 1 := ⟨by kernel_rfl⟩
instance fld_34_6 : FldI Tryz.prog 34 6 6 4 false 1 := ⟨by kernel_rfl⟩
instance fld_34_7 : FldI Tryz.prog 34 7 7 2 false 1 := ⟨by kernel_rfl⟩
instance fld_34_8 : FldI Tryz.prog 34 8 8 2 false 1 := ⟨by kernel_rfl⟩
instance fld_37_0 : FldI Tryz.prog 37 0 0 34 true 9 := ⟨by kernel_rfl⟩
instance fld_37_1 : FldI Tryz.prog 37 1 9 35 false 1 := ⟨by kernel_rfl⟩
instance fld_39_0 : FldI Tryz.prog 39 0 0 27 false 1 := ⟨by kernel_rfl⟩
instance fld_39_1 : FldI Tryz.prog 39 1 1 27 false 1 := ⟨by kernel_rfl⟩
instance fld_39_2 : FldI Tryz.prog 39 2 2 2 false 1 := ⟨by kernel_rfl⟩
instance fld_56_0 : FldI Tryz.prog 56 0 0 34 true 9 := ⟨by kernel_rfl⟩
instance fld_56_1 : FldI Tryz.prog 56 1 9 39 true 3 := ⟨by kernel_rfl⟩
instance fld_56_2 : FldI Tryz.prog 56 2 12 27 false 1 := ⟨by kernel_rfl⟩
instance fld_56_3 : FldI Tryz.prog 56 3 13 39 true 3 := ⟨by kernel_rfl⟩
instance fld_56_4 : FldI Tryz.prog 56 4 16 2 false 1 := ⟨by kernel_rfl⟩
instance fld_81_0 : FldI Tryz.prog 81 0 0 2 false 1 := ⟨by kernel_rfl⟩
instance fld_81_1 : FldI Tryz.prog 81 1 1 2 false 1 := ⟨by kernel_rfl⟩
instance fld_81_2 : FldI Tryz.prog 81 2 2 2 false 1 := ⟨by kernel_rfl⟩
instance fld_89_0 : FldI Tryz.prog 89 0 0 27 false 1 := ⟨by kernel_rfl⟩
instance fld_89_1 : FldI Tryz.prog 89 1 1 67 false 1 := ⟨by kernel_rfl⟩
instance fld_101_0 : FldI Tryz.prog 101 0 0 2 false 1 := ⟨by kernel_rfl⟩
instance fld_101_1 : FldI Tryz.prog 101 1 1 2 false 1 := ⟨by kernel_rfl⟩
instance fld_101_2 : FldI Tryz.prog 101 2 2 4 false 1 := ⟨by kernel_rfl⟩
instance fld_101_3 : FldI Tryz.prog 101 3 3 39 true 3 := ⟨by kernel_rfl⟩
instance fld_162_0 : FldI Tryz.prog 162 0 0 27 false 1 := ⟨by kernel_rfl⟩
instance fld_162_1 : FldI Tryz.prog 162 1 1 27 false 1 := ⟨by kernel_rfl⟩
instance fld_162_2 : FldI Tryz.prog 162 2 2 2 false 1 := ⟨by kernel_rfl⟩
instance fld_162_3 : FldI Tryz.prog 162 3 3 2 false 1 := ⟨by kernel_rfl⟩
instance fld_189_0 : FldI Tryz.prog 189 0 0 61 false 1 := ⟨by kernel_rfl⟩
instance fld_189_1 : FldI Tryz.prog 189 1 1 3 false 1 := ⟨by kernel_rfl⟩
instance fld_189_2 : FldI Tryz.prog 189 2 2 187 false 1 := ⟨by kernel_rfl⟩
instance fld_216_0 : FldI Tryz.prog 216 0 0 34 true 9 := ⟨by kernel_rfl⟩
instance fld_216_1 : FldI Tryz.prog 216 1 9 2 false 1 := ⟨by kernel_rfl⟩
instance fld_216_2 : FldI Tryz.prog 216 2 10 162 true 4 := ⟨by kernel_rfl⟩
instance fld_216_3 : FldI Tryz.prog 216 3 14 27 false 1 := ⟨by kernel_rfl⟩
instance eI_27 : ElI Tryz.prog 27 2 1 8 [.int .i64 0] := ⟨by kernel_rfl⟩
theorem el_27 : elOf Tryz.prog 27 = some (2, 1, 8, [.int .i64 0]) := ElI.h
instance eI_35 : ElI Tryz.prog 35 89 2 48 [.slice none 0 0, .slice none 0 0] := ⟨by kernel_rfl⟩
theorem el_35 : elOf Tryz.prog 35 = some (89, 2, 48, [.slice none 0 0, .slice none 0 0]) := ElI.h
instance eI_61 : ElI Tryz.prog 61 5 1 1 [.int .u8 0] := ⟨by kernel_rfl⟩
theorem el_61 : elOf Tryz.prog 61 = some (5, 1, 1, [.int .u8 0]) := ElI.h
instance eI_67 : ElI Tryz.prog 67 81 3 24 [.int .i64 0, .int .i64 0, .int .i64 0] := ⟨by kernel_rfl⟩
theorem el_67 : elOf Tryz.prog 67 = some (81, 3, 24, [.int .i64 0, .int .i64 0, .int .i64 0]) := ElI.h
instance eI_126 : ElI Tryz.prog 126 39 3 56 [.slice none 0 0, .slice none 0 0, .int .i64 0] := ⟨by kernel_rfl⟩
theorem el_126 : elOf Tryz.prog 126 = some (39, 3, 56, [.slice none 0 0, .slice none 0 0, .int .i64 0]) := ElI.h
instance eI_131 : ElI Tryz.prog 131 101 6 80 [.int .i64 0, .int .i64 0, .bool false, .slice none 0 0, .slice none 0 0, .int .i64 0] := ⟨by kernel_rfl⟩
theorem el_131 : elOf Tryz.prog 131 = some (101, 6, 80, [.int .i64 0, .int .i64 0, .bool false, .slice none 0 0, .slice none 0 0, .int .i64 0]) := ElI.h
instance eI_195 : ElI Tryz.prog 195 9 1 16 [.string ByteArray.empty] := ⟨by kernel_rfl⟩
theorem el_195 : elOf Tryz.prog 195 = some (9, 1, 16, [.string ByteArray.empty]) := ElI.h
instance zero_34 : ZeroI Tryz.prog 34 [.int .i64 0, .int .i64 0, .bool false, .bool false, .bool false, .bool false, .bool false, .int .i64 0, .int .i64 0] := ⟨by kernel_rfl⟩
instance zero_37 : ZeroI Tryz.prog 37 [.int .i64 0, .int .i64 0, .bool false, .bool false, .bool false, .bool false, .bool false, .int .i64 0, .int .i64 0, .slice none 0 0] := ⟨by kernel_rfl⟩
instance zero_39 : ZeroI Tryz.prog 39 [.slice none 0 0, .slice none 0 0, .int .i64 0] := ⟨by kernel_rfl⟩
instance zero_56 : ZeroI Tryz.prog 56 [.int .i64 0, .int .i64 0, .bool false, .bool false, .bool false, .bool false, .bool false, .int .i64 0, .int .i64 0, .slice none 0 0, .slice none 0 0, .int .i64 0, .slice none 0 0, .slice none 0 0, .slice none 0 0, .int .i64 0, .int .i64 0] := ⟨by kernel_rfl⟩
instance zero_81 : ZeroI Tryz.prog 81 [.int .i64 0, .int .i64 0, .int .i64 0] := ⟨by kernel_rfl⟩
instance zero_89 : ZeroI Tryz.prog 89 [.slice none 0 0, .slice none 0 0] := ⟨by kernel_rfl⟩
instance zero_101 : ZeroI Tryz.prog 101 [.int .i64 0, .int .i64 0, .bool false, .slice none 0 0, .slice none 0 0, .int .i64 0] := ⟨by kernel_rfl⟩
instance zero_162 : ZeroI Tryz.prog 162 [.slice none 0 0, .slice none 0 0, .int .i64 0, .int .i64 0] := ⟨by kernel_rfl⟩
instance zero_189 : ZeroI Tryz.prog 189 [.slice none 0 0, .int .i64 0, .int .u64 0] := ⟨by kernel_rfl⟩
instance zero_216 : ZeroI Tryz.prog 216 [.int .i64 0, .int .i64 0, .bool false, .bool false, .bool false, .bool false, .bool false, .int .i64 0, .int .i64 0, .int .i64 0, .slice none 0 0, .slice none 0 0, .int .i64 0, .int .i64 0, .slice none 0 0] := ⟨by kernel_rfl⟩
instance flds_34 : FldsI Tryz.prog 34 [(0, 1), (1, 1), (2, 1), (3, 1), (4, 1), (5, 1), (6, 1), (7, 1), (8, 1)] := ⟨by kernel_rfl⟩
instance flds_37 : FldsI Tryz.prog 37 [(0, 9), (9, 1)] := ⟨by kernel_rfl⟩
instance flds_39 : FldsI Tryz.prog 39 [(0, 1), (1, 1), (2, 1)] := ⟨by kernel_rfl⟩
instance flds_56 : FldsI Tryz.prog 56 [(0, 9), (9, 3), (12, 1), (13, 3), (16, 1)] := ⟨by kernel_rfl⟩
instance flds_81 : FldsI Tryz.prog 81 [(0, 1), (1, 1), (2, 1)] := ⟨by kernel_rfl⟩
instance flds_89 : FldsI Tryz.prog 89 [(0, 1), (1, 1)] := ⟨by kernel_rfl⟩
instance flds_101 : FldsI Tryz.prog 101 [(0, 1), (1, 1), (2, 1), (3, 3)] := ⟨by kernel_rfl⟩
instance flds_162 : FldsI Tryz.prog 162 [(0, 1), (1, 1), (2, 1), (3, 1)] := ⟨by kernel_rfl⟩
instance flds_189 : FldsI Tryz.prog 189 [(0, 1), (1, 1), (2, 1)] := ⟨by kernel_rfl⟩
instance flds_216 : FldsI Tryz.prog 216 [(0, 9), (9, 1), (10, 4), (14, 1)] := ⟨by kernel_rfl⟩
instance fn_10 : FnI Tryz.prog 10 := ⟨by kernel_rfl⟩
instance fn_13 : FnI Tryz.prog 13 := ⟨by kernel_rfl⟩
instance fn_30 : FnI Tryz.prog 30 := ⟨by kernel_rfl⟩
instance fn_31 : FnI Tryz.prog 31 := ⟨by kernel_rfl⟩
instance fn_32 : FnI Tryz.prog 32 := ⟨by kernel_rfl⟩
instance fn_33 : FnI Tryz.prog 33 := ⟨by kernel_rfl⟩
instance fn_34 : FnI Tryz.prog 34 := ⟨by kernel_rfl⟩
instance fn_35 : FnI Tryz.prog 35 := ⟨by kernel_rfl⟩
instance fn_36 : FnI Tryz.prog 36 := ⟨by kernel_rfl⟩
instance fn_37 : FnI Tryz.prog 37 := ⟨by kernel_rfl⟩
instance fn_38 : FnI Tryz.prog 38 := ⟨by kernel_rfl⟩
instance fn_39 : FnI Tryz.prog 39 := ⟨by kernel_rfl⟩
instance fn_40 : FnI Tryz.prog 40 := ⟨by kernel_rfl⟩
instance fn_41 : FnI Tryz.prog 41 := ⟨by kernel_rfl⟩
instance fn_42 : FnI Tryz.prog 42 := ⟨by kernel_rfl⟩
instance fn_43 : FnI Tryz.prog 43 := ⟨by kernel_rfl⟩
instance fn_44 : FnI Tryz.prog 44 := ⟨by kernel_rfl⟩
instance fn_45 : FnI Tryz.prog 45 := ⟨by kernel_rfl⟩
instance fn_50 : FnI Tryz.prog 50 := ⟨by kernel_rfl⟩
instance fn_54 : FnI Tryz.prog 54 := ⟨by kernel_rfl⟩
instance fn_55 : FnI Tryz.prog 55 := ⟨by kernel_rfl⟩
instance fn_56 : FnI Tryz.prog 56 := ⟨by kernel_rfl⟩
instance fn_57 : FnI Tryz.prog 57 := ⟨by kernel_rfl⟩
instance fn_58 : FnI Tryz.prog 58 := ⟨by kernel_rfl⟩
instance fn_59 : FnI Tryz.prog 59 := ⟨by kernel_rfl⟩
instance fn_63 : FnI Tryz.prog 63 := ⟨by kernel_rfl⟩
instance fn_64 : FnI Tryz.prog 64 := ⟨by kernel_rfl⟩
instance fn_65 : FnI Tryz.prog 65 := ⟨by kernel_rfl⟩
instance fn_66 : FnI Tryz.prog 66 := ⟨by kernel_rfl⟩
instance fn_67 : FnI Tryz.prog 67 := ⟨by kernel_rfl⟩
instance fn_71 : FnI Tryz.prog 71 := ⟨by kernel_rfl⟩
instance fn_72 : FnI Tryz.prog 72 := ⟨by kernel_rfl⟩
instance fn_73 : FnI Tryz.prog 73 := ⟨by kernel_rfl⟩
instance fn_74 : FnI Tryz.prog 74 := ⟨by kernel_rfl⟩
instance fn_76 : FnI Tryz.prog 76 := ⟨by kernel_rfl⟩
instance fn_79 : FnI Tryz.prog 79 := ⟨by kernel_rfl⟩
instance fn_82 : FnI Tryz.prog 82 := ⟨by kernel_rfl⟩
instance fn_84 : FnI Tryz.prog 84 := ⟨by kernel_rfl⟩
instance fn_89 : FnI Tryz.prog 89 := ⟨by kernel_rfl⟩
instance fn_90 : FnI Tryz.prog 90 := ⟨by kernel_rfl⟩
instance fn_91 : FnI Tryz.prog 91 := ⟨by kernel_rfl⟩
instance fn_92 : FnI Tryz.prog 92 := ⟨by kernel_rfl⟩
instance fn_93 : FnI Tryz.prog 93 := ⟨by kernel_rfl⟩
instance fn_94 : FnI Tryz.prog 94 := ⟨by kernel_rfl⟩
instance fn_95 : FnI Tryz.prog 95 := ⟨by kernel_rfl⟩
instance fn_96 : FnI Tryz.prog 96 := ⟨by kernel_rfl⟩
instance fn_97 : FnI Tryz.prog 97 := ⟨by kernel_rfl⟩
instance fn_98 : FnI Tryz.prog 98 := ⟨by kernel_rfl⟩
instance fn_99 : FnI Tryz.prog 99 := ⟨by kernel_rfl⟩
instance fn_100 : FnI Tryz.prog 100 := ⟨by kernel_rfl⟩
instance fn_101 : FnI Tryz.prog 101 := ⟨by kernel_rfl⟩
instance fn_102 : FnI Tryz.prog 102 := ⟨by kernel_rfl⟩
instance fn_103 : FnI Tryz.prog 103 := ⟨by kernel_rfl⟩
instance fn_104 : FnI Tryz.prog 104 := ⟨by kernel_rfl⟩
instance fn_105 : FnI Tryz.prog 105 := ⟨by kernel_rfl⟩
instance fn_107 : FnI Tryz.prog 107 := ⟨by kernel_rfl⟩
instance fn_108 : FnI Tryz.prog 108 := ⟨by kernel_rfl⟩
instance fn_109 : FnI Tryz.prog 109 := ⟨by kernel_rfl⟩
instance fn_110 : FnI Tryz.prog 110 := ⟨by kernel_rfl⟩
instance fn_111 : FnI Tryz.prog 111 := ⟨by kernel_rfl⟩
instance fn_113 : FnI Tryz.prog 113 := ⟨by kernel_rfl⟩
instance fn_114 : FnI Tryz.prog 114 := ⟨by kernel_rfl⟩
instance fn_115 : FnI Tryz.prog 115 := ⟨by kernel_rfl⟩
instance fn_116 : FnI Tryz.prog 116 := ⟨by kernel_rfl⟩
instance fn_117 : FnI Tryz.prog 117 := ⟨by kernel_rfl⟩
instance fn_118 : FnI Tryz.prog 118 := ⟨by kernel_rfl⟩
instance fn_119 : FnI Tryz.prog 119 := ⟨by kernel_rfl⟩
instance fn_120 : FnI Tryz.prog 120 := ⟨by kernel_rfl⟩
instance fn_121 : FnI Tryz.prog 121 := ⟨by kernel_rfl⟩
instance fn_123 : FnI Tryz.prog 123 := ⟨by kernel_rfl⟩
instance fn_124 : FnI Tryz.prog 124 := ⟨by kernel_rfl⟩
instance fn_125 : FnI Tryz.prog 125 := ⟨by kernel_rfl⟩
instance fn_126 : FnI Tryz.prog 126 := ⟨by kernel_rfl⟩
instance fn_129 : FnI Tryz.prog 129 := ⟨by kernel_rfl⟩
instance fn_130 : FnI Tryz.prog 130 := ⟨by kernel_rfl⟩
instance fn_131 : FnI Tryz.prog 131 := ⟨by kernel_rfl⟩
instance fn_132 : FnI Tryz.prog 132 := ⟨by kernel_rfl⟩
instance fn_133 : FnI Tryz.prog 133 := ⟨by kernel_rfl⟩
instance fn_134 : FnI Tryz.prog 134 := ⟨by kernel_rfl⟩
instance fn_135 : FnI Tryz.prog 135 := ⟨by kernel_rfl⟩
instance fn_137 : FnI Tryz.prog 137 := ⟨by kernel_rfl⟩
instance fn_143 : FnI Tryz.prog 143 := ⟨by kernel_rfl⟩
instance fn_144 : FnI Tryz.prog 144 := ⟨by kernel_rfl⟩
instance fn_145 : FnI Tryz.prog 145 := ⟨by kernel_rfl⟩
instance fn_146 : FnI Tryz.prog 146 := ⟨by kernel_rfl⟩
instance fn_147 : FnI Tryz.prog 147 := ⟨by kernel_rfl⟩
instance fn_148 : FnI Tryz.prog 148 := ⟨by kernel_rfl⟩
instance fn_149 : FnI Tryz.prog 149 := ⟨by kernel_rfl⟩
instance fn_150 : FnI Tryz.prog 150 := ⟨by kernel_rfl⟩
instance fn_151 : FnI Tryz.prog 151 := ⟨by kernel_rfl⟩
instance fn_152 : FnI Tryz.prog 152 := ⟨by kernel_rfl⟩
instance fn_155 : FnI Tryz.prog 155 := ⟨by kernel_rfl⟩
instance fn_156 : FnI Tryz.prog 156 := ⟨by kernel_rfl⟩
instance fn_158 : FnI Tryz.prog 158 := ⟨by kernel_rfl⟩
instance fn_159 : FnI Tryz.prog 159 := ⟨by kernel_rfl⟩
instance fn_160 : FnI Tryz.prog 160 := ⟨by kernel_rfl⟩
instance fn_161 : FnI Tryz.prog 161 := ⟨by kernel_rfl⟩
instance fn_162 : FnI Tryz.prog 162 := ⟨by kernel_rfl⟩
instance fn_163 : FnI Tryz.prog 163 := ⟨by kernel_rfl⟩
instance fn_166 : FnI Tryz.prog 166 := ⟨by kernel_rfl⟩
instance fn_167 : FnI Tryz.prog 167 := ⟨by kernel_rfl⟩
instance fn_168 : FnI Tryz.prog 168 := ⟨by kernel_rfl⟩
instance fn_169 : FnI Tryz.prog 169 := ⟨by kernel_rfl⟩
instance fn_170 : FnI Tryz.prog 170 := ⟨by kernel_rfl⟩
instance fn_177 : FnI Tryz.prog 177 := ⟨by kernel_rfl⟩
instance fn_178 : FnI Tryz.prog 178 := ⟨by kernel_rfl⟩
instance fn_179 : FnI Tryz.prog 179 := ⟨by kernel_rfl⟩
instance fn_180 : FnI Tryz.prog 180 := ⟨by kernel_rfl⟩
instance fn_183 : FnI Tryz.prog 183 := ⟨by kernel_rfl⟩
instance fn_184 : FnI Tryz.prog 184 := ⟨by kernel_rfl⟩
instance fn_185 : FnI Tryz.prog 185 := ⟨by kernel_rfl⟩
instance fn_186 : FnI Tryz.prog 186 := ⟨by kernel_rfl⟩
instance fn_187 : FnI Tryz.prog 187 := ⟨by kernel_rfl⟩
instance fn_188 : FnI Tryz.prog 188 := ⟨by kernel_rfl⟩
instance fn_189 : FnI Tryz.prog 189 := ⟨by kernel_rfl⟩
instance fn_195 : FnI Tryz.prog 195 := ⟨by kernel_rfl⟩
instance fn_196 : FnI Tryz.prog 196 := ⟨by kernel_rfl⟩
instance fn_197 : FnI Tryz.prog 197 := ⟨by kernel_rfl⟩
instance fn_198 : FnI Tryz.prog 198 := ⟨by kernel_rfl⟩
instance fn_201 : FnI Tryz.prog 201 := ⟨by kernel_rfl⟩
instance fn_202 : FnI Tryz.prog 202 := ⟨by kernel_rfl⟩
instance uI_4 : UndI Tryz.prog 4 (.bool) := ⟨@Tryz.underlying4⟩
theorem und_4 : Tryz.prog.underlying 4 = some (.bool) := UndI.h
instance uI_9 : UndI Tryz.prog 9 (.string) := ⟨@Tryz.underlying9⟩
theorem und_9 : Tryz.prog.underlying 9 = some (.string) := UndI.h
instance uI_10 : UndI Tryz.prog 10 (.string) := ⟨@Tryz.underlying10⟩
instance uI_11 : UndI Tryz.prog 11 (.string) := ⟨@Tryz.underlying11⟩
instance uI_24 : UndI Tryz.prog 24 (.slice 158) := ⟨@Tryz.underlying24⟩
instance uI_27 : UndI Tryz.prog 27 (.slice 2) := ⟨@Tryz.underlying27⟩
theorem und_27 : Tryz.prog.underlying 27 = some (.slice 2) := UndI.h
instance uI_35 : UndI Tryz.prog 35 (.slice 89) := ⟨@Tryz.underlying35⟩
theorem und_35 : Tryz.prog.underlying 35 = some (.slice 89) := UndI.h
instance uI_61 : UndI Tryz.prog 61 (.slice 5) := ⟨@Tryz.underlying61⟩
instance uI_67 : UndI Tryz.prog 67 (.slice 81) := ⟨@Tryz.underlying67⟩
theorem und_67 : Tryz.prog.underlying 67 = some (.slice 81) := UndI.h
instance uI_126 : UndI Tryz.prog 126 (.slice 39) := ⟨@Tryz.underlying126⟩
theorem und_126 : Tryz.prog.underlying 126 = some (.slice 39) := UndI.h
instance uI_131 : UndI Tryz.prog 131 (.slice 101) := ⟨@Tryz.underlying131⟩
theorem und_131 : Tryz.prog.underlying 131 = some (.slice 101) := UndI.h
instance uI_156 : UndI Tryz.prog 156 (.slice 227) := ⟨@Tryz.underlying156⟩
instance uI_195 : UndI Tryz.prog 195 (.slice 9) := ⟨@Tryz.underlying195⟩
instance mixI : MixI Tryz.prog := ⟨by kernel_rfl⟩
@[reducible] def cRules (x : M.Rul) : List Ty := [Ty.int x.pits, Ty.int x.seeds, Ty.bool x.stores, Ty.bool x.skip, Ty.bool x.relay, Ty.bool x.feed, Ty.bool x.again, Ty.int x.capture, Ty.int x.slam]
def lRules (xs : List M.Rul) : List Ty := xs.flatMap cRules
theorem lRules_length (xs : List M.Rul) : (lRules xs).length = xs.length * 9 := flat_len cRules 9 (fun _ => rfl) xs
instance : LenL lRules 9 := ⟨lRules_length⟩
set_option maxRecDepth 100000 in
theorem eqs_Rules (a b : M.Rul) (w : World) : (Op.equalIn 10000 34 (.agg #[.int .i64 a.pits, .int .i64 a.seeds, .bool a.stores, .bool a.skip, .bool a.relay, .bool a.feed, .bool a.again, .int .i64 a.capture, .int .i64 a.slam]) (.agg #[.int .i64 b.pits, .int .i64 b.seeds, .bool b.stores, .bool b.skip, .bool b.relay, .bool b.feed, .bool b.again, .int .i64 b.capture, .int .i64 b.slam])).run Tryz.prog w = .ok (decide (a = b)) w := by
  have u2 := Tryz.underlying2
  have u4 := Tryz.underlying4
  have i2 := run_equalIn_int (P := Tryz.prog) (d := 9998) (t := 2) (k := .i64) (k' := .i64) (h := u2)
  have i4 := run_equalIn_bool (P := Tryz.prog) 9998 (t := 4) u4
  rw [show (10000 : Nat) = 9999 + 1 from rfl, run_equalIn_agg w 9999 34 _ _ (by kernel_rfl) (by kernel_rfl)]
  simp only [Program.fieldsOf, Tryz.underlying34]
  go_simp
  by_cases h : a = b
  · subst h; simp
  rw [decide_eq_false h]
  by_cases h0 : a.pits = b.pits
  case neg => rw [if_neg h0]
  rw [if_pos h0]
  by_cases h1 : a.seeds = b.seeds
  case neg => rw [if_neg h1]
  rw [if_pos h1]
  by_cases h2 : a.stores = b.stores
  case neg => rw [if_neg h2]
  rw [if_pos h2]
  by_cases h3 : a.skip = b.skip
  case neg => rw [if_neg h3]
  rw [if_pos h3]
  by_cases h4 : a.relay = b.relay
  case neg => rw [if_neg h4]
  rw [if_pos h4]
  by_cases h5 : a.feed = b.feed
  case neg => rw [if_neg h5]
  rw [if_pos h5]
  by_cases h6 : a.again = b.again
  case neg => rw [if_neg h6]
  rw [if_pos h6]
  by_cases h7 : a.capture = b.capture
  case neg => rw [if_neg h7]
  rw [if_pos h7]
  by_cases h8 : a.slam = b.slam
  case neg => rw [if_neg h8]
  rw [if_pos h8]
  exact absurd (by cases a; cases b; simp_all) h
@[reducible] def cPosition (x : M.Pos) : List Ty := [Ty.ints 2 x.pits, Ty.ints 2 x.stores, Ty.int x.player]
def lPosition (xs : List M.Pos) : List Ty := xs.flatMap cPosition
theorem lPosition_length (xs : List M.Pos) : (lPosition xs).length = xs.length * 3 := flat_len cPosition 3 (fun _ => rfl) xs
instance : LenL lPosition 3 := ⟨lPosition_length⟩
theorem elem_Position {u : World} {e c i : Nat} {A : Option Addr} {xs : List M.Pos} {x : M.Pos} (h : (Ty.sl e 3 xs.length (lPosition xs)).ok u (.slice A xs.length c)) (hi : xs[i]? = some x) : ∃ b o A0 c0 A1 c1, elemA 3 (.slice A xs.length c) i = some ⟨b, o, none⟩ ∧ RowAt u b o [.slice A0 x.pits.length c0, .slice A1 x.stores.length c1, .int .i64 x.player] ∧ (Ty.ints 2 x.pits).ok u (.slice A0 x.pits.length c0) ∧ (Ty.ints 2 x.stores).ok u (.slice A1 x.stores.length c1) ∧ x.pits.length ≤ c0 ∧ c0 ≤ 9223372036854775807 ∧ x.stores.length ≤ c1 ∧ c1 ≤ 9223372036854775807 := by
  obtain ⟨b, o, vs, he, h, hr⟩ := sl_elem h (List.getElem?_eq_some_iff.1 hi).1 rfl
  have e := drop_flat cPosition 3 (fun _ => rfl) xs i x hi
  unfold lPosition at h
  rw [e] at h
  obtain ⟨x0, r, rfl, h0, h⟩ := cellsOk_cons h
  obtain ⟨x1, r, rfl, h1, h⟩ := cellsOk_cons h
  obtain ⟨x2, r, rfl, h2, h⟩ := cellsOk_cons h
  obtain rfl := cellsOk_nil h
  obtain ⟨A0, c0, rfl, b0, d0⟩ := sl_form h0
  obtain ⟨A1, c1, rfl, b1, d1⟩ := sl_form h1
  obtain rfl : x2 = .int .i64 x.player := h2
  exact ⟨b, o, A0, c0, A1, c1, he, hr, h0, h1, b0, d0, b1, d1⟩
theorem lPosition_snoc (xs : List M.Pos) (x : M.Pos) : lPosition xs ++ cPosition x = lPosition (xs ++ [x]) := by simp [lPosition]
@[reducible] def cSown (x : M.Sw) : List Ty := [Ty.ints 2 x.pits, Ty.ints 2 x.stores, Ty.int x.last, Ty.int x.laps]
def lSown (xs : List M.Sw) : List Ty := xs.flatMap cSown
theorem lSown_length (xs : List M.Sw) : (lSown xs).length = xs.length * 4 := flat_len cSown 4 (fun _ => rfl) xs
instance : LenL lSown 4 := ⟨lSown_length⟩
@[reducible] def csowing (x : M.Sow) : List Ty := [Ty.int x.rules.pits, Ty.int x.rules.seeds, Ty.bool x.rules.stores, Ty.bool x.rules.skip, Ty.bool x.rules.relay, Ty.bool x.rules.feed, Ty.bool x.rules.again, Ty.int x.rules.capture, Ty.int x.rules.slam, Ty.int x.player, Ty.ints 2 x.sown.pits, Ty.ints 2 x.sown.stores, Ty.int x.sown.last, Ty.int x.sown.laps, Ty.ints 2 x.path]
theorem ref_sowing {u : World} {v : Value} {x : M.Sow} (h : (Ty.ref (csowing x)).ok u v) : ∃ b o A10 c10 A11 c11 A14 c14, v = .pointer (some ⟨b, o, none⟩) ∧ RowAt u b o [.int .i64 x.rules.pits, .int .i64 x.rules.seeds, .bool x.rules.stores, .bool x.rules.skip, .bool x.rules.relay, .bool x.rules.feed, .bool x.rules.again, .int .i64 x.rules.capture, .int .i64 x.rules.slam, .int .i64 x.player, .slice A10 x.sown.pits.length c10, .slice A11 x.sown.stores.length c11, .int .i64 x.sown.last, .int .i64 x.sown.laps, .slice A14 x.path.length c14] ∧ (Ty.ints 2 x.sown.pits).ok u (.slice A10 x.sown.pits.length c10) ∧ (Ty.ints 2 x.sown.stores).ok u (.slice A11 x.sown.stores.length c11) ∧ (Ty.ints 2 x.path).ok u (.slice A14 x.path.length c14) ∧ x.sown.pits.length ≤ c10 ∧ c10 ≤ 9223372036854775807 ∧ x.sown.stores.length ≤ c11 ∧ c11 ≤ 9223372036854775807 ∧ x.path.length ≤ c14 ∧ c14 ≤ 9223372036854775807 := by
  obtain ⟨b, o, vs, rfl, h, hr⟩ := h
  obtain ⟨x0, r, rfl, h0, h⟩ := cellsOk_cons h
  obtain ⟨x1, r, rfl, h1, h⟩ := cellsOk_cons h
  obtain ⟨x2, r, rfl, h2, h⟩ := cellsOk_cons h
  obtain ⟨x3, r, rfl, h3, h⟩ := cellsOk_cons h
  obtain ⟨x4, r, rfl, h4, h⟩ := cellsOk_cons h
  obtain ⟨x5, r, rfl, h5, h⟩ := cellsOk_cons h
  obtain ⟨x6, r, rfl, h6, h⟩ := cellsOk_cons h
  obtain ⟨x7, r, rfl, h7, h⟩ := cellsOk_cons h
  obtain ⟨x8, r, rfl, h8, h⟩ := cellsOk_cons h
  obtain ⟨x9, r, rfl, h9, h⟩ := cellsOk_cons h
  obtain ⟨x10, r, rfl, h10, h⟩ := cellsOk_cons h
  obtain ⟨x11, r, rfl, h11, h⟩ := cellsOk_cons h
  obtain ⟨x12, r, rfl, h12, h⟩ := cellsOk_cons h
  obtain ⟨x13, r, rfl, h13, h⟩ := cellsOk_cons h
  obtain ⟨x14, r, rfl, h14, h⟩ := cellsOk_cons h
  obtain rfl := cellsOk_nil h
  obtain rfl : x0 = .int .i64 x.rules.pits := h0
  obtain rfl : x1 = .int .i64 x.rules.seeds := h1
  obtain rfl : x2 = .bool x.rules.stores := h2
  obtain rfl : x3 = .bool x.rules.skip := h3
  obtain rfl : x4 = .bool x.rules.relay := h4
  obtain rfl : x5 = .bool x.rules.feed := h5
  obtain rfl : x6 = .bool x.rules.again := h6
  obtain rfl : x7 = .int .i64 x.rules.capture := h7
  obtain rfl : x8 = .int .i64 x.rules.slam := h8
  obtain rfl : x9 = .int .i64 x.player := h9
  obtain ⟨A10, c10, rfl, b10, d10⟩ := sl_form h10
  obtain ⟨A11, c11, rfl, b11, d11⟩ := sl_form h11
  obtain rfl : x12 = .int .i64 x.sown.last := h12
  obtain rfl : x13 = .int .i64 x.sown.laps := h13
  obtain ⟨A14, c14, rfl, b14, d14⟩ := sl_form h14
  exact ⟨b, o, A10, c10, A11, c11, A14, c14, rfl, hr, h10, h11, h14, b10, d10, b11, d11, b14, d14⟩
def lsowing (xs : List M.Sow) : List Ty := xs.flatMap csowing
theorem lsowing_length (xs : List M.Sow) : (lsowing xs).length = xs.length * 15 := flat_len csowing 15 (fun _ => rfl) xs
instance : LenL lsowing 15 := ⟨lsowing_length⟩
@[reducible] def cResult (x : M.Res) : List Ty := [Ty.int x.move, Ty.int x.gain, Ty.bool x.again, Ty.ints 2 x.next.pits, Ty.ints 2 x.next.stores, Ty.int x.next.player]
def lResult (xs : List M.Res) : List Ty := xs.flatMap cResult
theorem lResult_length (xs : List M.Res) : (lResult xs).length = xs.length * 6 := flat_len cResult 6 (fun _ => rfl) xs
instance : LenL lResult 6 := ⟨lResult_length⟩
theorem elem_Result {u : World} {e c i : Nat} {A : Option Addr} {xs : List M.Res} {x : M.Res} (h : (Ty.sl e 6 xs.length (lResult xs)).ok u (.slice A xs.length c)) (hi : xs[i]? = some x) : ∃ b o A3 c3 A4 c4, elemA 6 (.slice A xs.length c) i = some ⟨b, o, none⟩ ∧ RowAt u b o [.int .i64 x.move, .int .i64 x.gain, .bool x.again, .slice A3 x.next.pits.length c3, .slice A4 x.next.stores.length c4, .int .i64 x.next.player] ∧ (Ty.ints 2 x.next.pits).ok u (.slice A3 x.next.pits.length c3) ∧ (Ty.ints 2 x.next.stores).ok u (.slice A4 x.next.stores.length c4) ∧ x.next.pits.length ≤ c3 ∧ c3 ≤ 9223372036854775807 ∧ x.next.stores.length ≤ c4 ∧ c4 ≤ 9223372036854775807 := by
  obtain ⟨b, o, vs, he, h, hr⟩ := sl_elem h (List.getElem?_eq_some_iff.1 hi).1 rfl
  have e := drop_flat cResult 6 (fun _ => rfl) xs i x hi
  unfold lResult at h
  rw [e] at h
  obtain ⟨x0, r, rfl, h0, h⟩ := cellsOk_cons h
  obtain ⟨x1, r, rfl, h1, h⟩ := cellsOk_cons h
  obtain ⟨x2, r, rfl, h2, h⟩ := cellsOk_cons h
  obtain ⟨x3, r, rfl, h3, h⟩ := cellsOk_cons h
  obtain ⟨x4, r, rfl, h4, h⟩ := cellsOk_cons h
  obtain ⟨x5, r, rfl, h5, h⟩ := cellsOk_cons h
  obtain rfl := cellsOk_nil h
  obtain rfl : x0 = .int .i64 x.move := h0
  obtain rfl : x1 = .int .i64 x.gain := h1
  obtain rfl : x2 = .bool x.again := h2
  obtain ⟨A3, c3, rfl, b3, d3⟩ := sl_form h3
  obtain ⟨A4, c4, rfl, b4, d4⟩ := sl_form h4
  obtain rfl : x5 = .int .i64 x.next.player := h5
  exact ⟨b, o, A3, c3, A4, c4, he, hr, h3, h4, b3, d3, b4, d4⟩
theorem elemv_Result {w : World} {i : Nat} {xs : List M.Res} {x : M.Res} {vs : List Value} (h : cellsOk w (lResult xs) vs) (hi : xs[i]? = some x) : ∃ A3 c3 A4 c4, (vs.drop (0 + i * 6)).take 6 = [.int .i64 x.move, .int .i64 x.gain, .bool x.again, .slice A3 x.next.pits.length c3, .slice A4 x.next.stores.length c4, .int .i64 x.next.player] ∧ x.next.pits.length ≤ c3 ∧ c3 ≤ 9223372036854775807 ∧ x.next.stores.length ≤ c4 ∧ c4 ≤ 9223372036854775807 := by
  rw [Nat.zero_add]
  have h := cellsOk.take 6 (cellsOk.drop (i * 6) h)
  rw [lResult, drop_flat cResult 6 (fun _ => rfl) xs i x hi] at h
  generalize (vs.drop (i * 6)).take 6 = vs at h ⊢
  obtain ⟨x0, r, rfl, h0, h⟩ := cellsOk_cons h
  obtain ⟨x1, r, rfl, h1, h⟩ := cellsOk_cons h
  obtain ⟨x2, r, rfl, h2, h⟩ := cellsOk_cons h
  obtain ⟨x3, r, rfl, h3, h⟩ := cellsOk_cons h
  obtain ⟨x4, r, rfl, h4, h⟩ := cellsOk_cons h
  obtain ⟨x5, r, rfl, h5, h⟩ := cellsOk_cons h
  obtain rfl := cellsOk_nil h
  obtain rfl : x0 = .int .i64 x.move := h0
  obtain rfl : x1 = .int .i64 x.gain := h1
  obtain rfl : x2 = .bool x.again := h2
  obtain ⟨A3, c3, rfl, b3, d3⟩ := sl_form h3
  obtain ⟨A4, c4, rfl, b4, d4⟩ := sl_form h4
  obtain rfl : x5 = .int .i64 x.next.player := h5
  exact ⟨A3, c3, A4, c4, rfl, b3, d3, b4, d4⟩
theorem lResult_snoc (xs : List M.Res) (x : M.Res) : lResult xs ++ cResult x = lResult (xs ++ [x]) := by simp [lResult]
theorem pack_Result {w : World} {x : M.Res} {v1 v2 : Value} {f1 f2 : List Nat} (h1 : (Ty.ints 2 x.next.pits).own w v1 f1) (h2 : (Ty.ints 2 x.next.stores).own w v2 f2) : cellsOwn w (cResult x) [.int .i64 x.move, .int .i64 x.gain, .bool x.again, v1, v2, .int .i64 x.next.player] (f1 ++ f2) :=
  ⟨[], f1 ++ f2, rfl, ⟨rfl, rfl⟩, ⟨[], f1 ++ f2, rfl, ⟨rfl, rfl⟩, ⟨[], f1 ++ f2, rfl, ⟨rfl, rfl⟩, ⟨f1, f2, rfl, h1, ⟨f2, [], (List.append_nil _).symm, h2, ⟨[], [], rfl, ⟨rfl, rfl⟩, rfl⟩⟩⟩⟩⟩⟩
@[reducible] def cResultL (x : M.Res) : List Ty := [Ty.int x.move, Ty.int x.gain, Ty.bool x.again, Ty.any, Ty.any, Ty.any]
def lResultL (xs : List M.Res) : List Ty := xs.flatMap cResultL
theorem lResultL_length (xs : List M.Res) : (lResultL xs).length = xs.length * 6 := flat_len cResultL 6 (fun _ => rfl) xs
instance : LenL lResultL 6 := ⟨lResultL_length⟩
@[reducible] def cChoice (x : M.Cho) : List Ty := [Ty.int x.move, Ty.int x.games, Ty.int x.score]
def lChoice (xs : List M.Cho) : List Ty := xs.flatMap cChoice
theorem lChoice_length (xs : List M.Cho) : (lChoice xs).length = xs.length * 3 := flat_len cChoice 3 (fun _ => rfl) xs
instance : LenL lChoice 3 := ⟨lChoice_length⟩
theorem elem_Choice {u : World} {e c i : Nat} {A : Option Addr} {xs : List M.Cho} {x : M.Cho} (h : (Ty.sl e 3 xs.length (lChoice xs)).ok u (.slice A xs.length c)) (hi : xs[i]? = some x) : ∃ b o, elemA 3 (.slice A xs.length c) i = some ⟨b, o, none⟩ ∧ RowAt u b o [.int .i64 x.move, .int .i64 x.games, .int .i64 x.score] := by
  obtain ⟨b, o, vs, he, h, hr⟩ := sl_elem h (List.getElem?_eq_some_iff.1 hi).1 rfl
  have e := drop_flat cChoice 3 (fun _ => rfl) xs i x hi
  unfold lChoice at h
  rw [e] at h
  obtain ⟨x0, r, rfl, h0, h⟩ := cellsOk_cons h
  obtain ⟨x1, r, rfl, h1, h⟩ := cellsOk_cons h
  obtain ⟨x2, r, rfl, h2, h⟩ := cellsOk_cons h
  obtain rfl := cellsOk_nil h
  obtain rfl : x0 = .int .i64 x.move := h0
  obtain rfl : x1 = .int .i64 x.games := h1
  obtain rfl : x2 = .int .i64 x.score := h2
  exact ⟨b, o, he, hr⟩
set_option maxRecDepth 100000 in
theorem eqs_Choice (a b : M.Cho) (w : World) : (Op.equalIn 10000 81 (.agg #[.int .i64 a.move, .int .i64 a.games, .int .i64 a.score]) (.agg #[.int .i64 b.move, .int .i64 b.games, .int .i64 b.score])).run Tryz.prog w = .ok (decide (a = b)) w := by
  have u2 := Tryz.underlying2
  have i2 := run_equalIn_int (P := Tryz.prog) (d := 9998) (t := 2) (k := .i64) (k' := .i64) (h := u2)
  rw [show (10000 : Nat) = 9999 + 1 from rfl, run_equalIn_agg w 9999 81 _ _ (by kernel_rfl) (by kernel_rfl)]
  simp only [Program.fieldsOf, Tryz.underlying81]
  go_simp
  by_cases h : a = b
  · subst h; simp
  rw [decide_eq_false h]
  by_cases h0 : a.move = b.move
  case neg => rw [if_neg h0]
  rw [if_pos h0]
  by_cases h1 : a.games = b.games
  case neg => rw [if_neg h1]
  rw [if_pos h1]
  by_cases h2 : a.score = b.score
  case neg => rw [if_neg h2]
  rw [if_pos h2]
  exact absurd (by cases a; cases b; simp_all) h
@[reducible] def vcChoice (x : M.Cho) : List Value := [.int .i64 x.move, .int .i64 x.games, .int .i64 x.score]
instance flt_Choice : FltL lChoice vcChoice 3 := flt_mk cChoice vcChoice 3 (fun w x => ⟨[], [], rfl, ⟨rfl, rfl⟩, ⟨[], [], rfl, ⟨rfl, rfl⟩, ⟨[], [], rfl, ⟨rfl, rfl⟩, rfl⟩⟩⟩) (fun w x vs f h => by
    obtain ⟨x0, r0, g0, q0, rfl, rfl, ⟨rfl, rfl⟩, h0⟩ := cellsOwn_cons h
    obtain ⟨x1, r1, g1, q1, rfl, rfl, ⟨rfl, rfl⟩, h1⟩ := cellsOwn_cons h0
    obtain ⟨x2, r2, g2, q2, rfl, rfl, ⟨rfl, rfl⟩, h2⟩ := cellsOwn_cons h1
    obtain ⟨rfl, rfl⟩ := cellsOwn_nil h2
    exact ⟨rfl, rfl⟩) (fun w x vs h => by
    obtain ⟨x0, r, rfl, h0, h⟩ := cellsOk_cons h
    obtain ⟨x1, r, rfl, h1, h⟩ := cellsOk_cons h
    obtain ⟨x2, r, rfl, h2, h⟩ := cellsOk_cons h
    obtain rfl := cellsOk_nil h
    obtain rfl : x0 = .int .i64 x.move := h0
    obtain rfl : x1 = .int .i64 x.games := h1
    obtain rfl : x2 = .int .i64 x.score := h2
    rfl) (fun _ => rfl) (fun _ => rfl) (fun _ => rfl) (by decide)
@[reducible] def cBookEntry (x : M.Ent) : List Ty := [Ty.ints 2 x.pits, Ty.sl 81 3 x.choices.length (lChoice x.choices)]
def lBookEntry (xs : List M.Ent) : List Ty := xs.flatMap cBookEntry
theorem lBookEntry_length (xs : List M.Ent) : (lBookEntry xs).length = xs.length * 2 := flat_len cBookEntry 2 (fun _ => rfl) xs
instance : LenL lBookEntry 2 := ⟨lBookEntry_length⟩
theorem elem_BookEntry {u : World} {e c i : Nat} {A : Option Addr} {xs : List M.Ent} {x : M.Ent} (h : (Ty.sl e 2 xs.length (lBookEntry xs)).ok u (.slice A xs.length c)) (hi : xs[i]? = some x) : ∃ b o A0 c0 A1 c1, elemA 2 (.slice A xs.length c) i = some ⟨b, o, none⟩ ∧ RowAt u b o [.slice A0 x.pits.length c0, .slice A1 x.choices.length c1] ∧ (Ty.ints 2 x.pits).ok u (.slice A0 x.pits.length c0) ∧ (Ty.sl 81 3 x.choices.length (lChoice x.choices)).ok u (.slice A1 x.choices.length c1) ∧ x.pits.length ≤ c0 ∧ c0 ≤ 9223372036854775807 ∧ x.choices.length ≤ c1 ∧ c1 ≤ 9223372036854775807 := by
  obtain ⟨b, o, vs, he, h, hr⟩ := sl_elem h (List.getElem?_eq_some_iff.1 hi).1 rfl
  have e := drop_flat cBookEntry 2 (fun _ => rfl) xs i x hi
  unfold lBookEntry at h
  rw [e] at h
  obtain ⟨x0, r, rfl, h0, h⟩ := cellsOk_cons h
  obtain ⟨x1, r, rfl, h1, h⟩ := cellsOk_cons h
  obtain rfl := cellsOk_nil h
  obtain ⟨A0, c0, rfl, b0, d0⟩ := sl_form h0
  obtain ⟨A1, c1, rfl, b1, d1⟩ := sl_form h1
  exact ⟨b, o, A0, c0, A1, c1, he, hr, h0, h1, b0, d0, b1, d1⟩
theorem elemv_BookEntry {w : World} {i : Nat} {xs : List M.Ent} {x : M.Ent} {vs : List Value} (h : cellsOk w (lBookEntry xs) vs) (hi : xs[i]? = some x) : ∃ A0 c0 A1 c1, (vs.drop (0 + i * 2)).take 2 = [.slice A0 x.pits.length c0, .slice A1 x.choices.length c1] ∧ x.pits.length ≤ c0 ∧ c0 ≤ 9223372036854775807 ∧ x.choices.length ≤ c1 ∧ c1 ≤ 9223372036854775807 := by
  rw [Nat.zero_add]
  have h := cellsOk.take 2 (cellsOk.drop (i * 2) h)
  rw [lBookEntry, drop_flat cBookEntry 2 (fun _ => rfl) xs i x hi] at h
  generalize (vs.drop (i * 2)).take 2 = vs at h ⊢
  obtain ⟨x0, r, rfl, h0, h⟩ := cellsOk_cons h
  obtain ⟨x1, r, rfl, h1, h⟩ := cellsOk_cons h
  obtain rfl := cellsOk_nil h
  obtain ⟨A0, c0, rfl, b0, d0⟩ := sl_form h0
  obtain ⟨A1, c1, rfl, b1, d1⟩ := sl_form h1
  exact ⟨A0, c0, A1, c1, rfl, b0, d0, b1, d1⟩
theorem lBookEntry_snoc (xs : List M.Ent) (x : M.Ent) : lBookEntry xs ++ cBookEntry x = lBookEntry (xs ++ [x]) := by simp [lBookEntry]
theorem lBookEntry_cut {u : World} {e c a b m : Nat} {A : Option Addr} {xs : List M.Ent} (h : (Ty.sl e 2 xs.length (lBookEntry xs)).ok u (.slice A xs.length c)) (h1 : a ≤ b) (h2 : b ≤ xs.length) (h3 : b ≤ m) (h4 : m ≤ c) (hl : ((xs.drop a).take (b - a)).length = b - a) : (Ty.sl e 2 ((xs.drop a).take (b - a)).length (lBookEntry ((xs.drop a).take (b - a)))).ok u (.slice (cutA 2 A a m) ((xs.drop a).take (b - a)).length (m - a)) := by
  have := sl_cut h h1 h2 h3 h4
  unfold lBookEntry at this ⊢
  rw [flat_cut cBookEntry 2 (fun _ => rfl)] at this
  rw [hl]; exact this
@[reducible] def cBook (x : M.Boo) : List Ty := [Ty.int x.rules.pits, Ty.int x.rules.seeds, Ty.bool x.rules.stores, Ty.bool x.rules.skip, Ty.bool x.rules.relay, Ty.bool x.rules.feed, Ty.bool x.rules.again, Ty.int x.rules.capture, Ty.int x.rules.slam, Ty.sl 89 2 x.entries.length (lBookEntry x.entries)]
theorem open_Book {u : World} {v : Value} {x : M.Boo} (h : (Ty.agg (cBook x)).ok u v) : ∃ A9 c9, v = .agg #[.int .i64 x.rules.pits, .int .i64 x.rules.seeds, .bool x.rules.stores, .bool x.rules.skip, .bool x.rules.relay, .bool x.rules.feed, .bool x.rules.again, .int .i64 x.rules.capture, .int .i64 x.rules.slam, .slice A9 x.entries.length c9] ∧ (Ty.sl 89 2 x.entries.length (lBookEntry x.entries)).ok u (.slice A9 x.entries.length c9) ∧ x.entries.length ≤ c9 ∧ c9 ≤ 9223372036854775807 := by
  obtain ⟨vs, rfl, h⟩ := h
  obtain ⟨x0, r, rfl, h0, h⟩ := cellsOk_cons h
  obtain ⟨x1, r, rfl, h1, h⟩ := cellsOk_cons h
  obtain ⟨x2, r, rfl, h2, h⟩ := cellsOk_cons h
  obtain ⟨x3, r, rfl, h3, h⟩ := cellsOk_cons h
  obtain ⟨x4, r, rfl, h4, h⟩ := cellsOk_cons h
  obtain ⟨x5, r, rfl, h5, h⟩ := cellsOk_cons h
  obtain ⟨x6, r, rfl, h6, h⟩ := cellsOk_cons h
  obtain ⟨x7, r, rfl, h7, h⟩ := cellsOk_cons h
  obtain ⟨x8, r, rfl, h8, h⟩ := cellsOk_cons h
  obtain ⟨x9, r, rfl, h9, h⟩ := cellsOk_cons h
  obtain rfl := cellsOk_nil h
  obtain rfl : x0 = .int .i64 x.rules.pits := h0
  obtain rfl : x1 = .int .i64 x.rules.seeds := h1
  obtain rfl : x2 = .bool x.rules.stores := h2
  obtain rfl : x3 = .bool x.rules.skip := h3
  obtain rfl : x4 = .bool x.rules.relay := h4
  obtain rfl : x5 = .bool x.rules.feed := h5
  obtain rfl : x6 = .bool x.rules.again := h6
  obtain rfl : x7 = .int .i64 x.rules.capture := h7
  obtain rfl : x8 = .int .i64 x.rules.slam := h8
  obtain ⟨A9, c9, rfl, b9, d9⟩ := sl_form h9
  exact ⟨A9, c9, rfl, h9, b9, d9⟩
def lBook (xs : List M.Boo) : List Ty := xs.flatMap cBook
theorem lBook_length (xs : List M.Boo) : (lBook xs).length = xs.length * 10 := flat_len cBook 10 (fun _ => rfl) xs
instance : LenL lBook 10 := ⟨lBook_length⟩
@[reducible] def cPositionL (x : M.Pos) : List Ty := [Ty.rx 2 x.pits, Ty.ints 2 x.stores, Ty.int x.player]
def lPositionL (xs : List M.Pos) : List Ty := xs.flatMap cPositionL
theorem lPositionL_length (xs : List M.Pos) : (lPositionL xs).length = xs.length * 3 := flat_len cPositionL 3 (fun _ => rfl) xs
instance : LenL lPositionL 3 := ⟨lPositionL_length⟩
@[reducible] def cGameL (x : M.Gam) : List Ty := [Ty.int x.rules.pits, Ty.int x.rules.seeds, Ty.bool x.rules.stores, Ty.bool x.rules.skip, Ty.bool x.rules.relay, Ty.bool x.rules.feed, Ty.bool x.rules.again, Ty.int x.rules.capture, Ty.int x.rules.slam, Ty.ints 2 x.start.pits, Ty.ints 2 x.start.stores, Ty.int x.start.player, Ty.ro 2 x.moves, Ty.ints 2 x.now.pits, Ty.ints 2 x.now.stores, Ty.int x.now.player, Ty.int x.resigned]
def lGameL (xs : List M.Gam) : List Ty := xs.flatMap cGameL
theorem lGameL_length (xs : List M.Gam) : (lGameL xs).length = xs.length * 17 := flat_len cGameL 17 (fun _ => rfl) xs
instance : LenL lGameL 17 := ⟨lGameL_length⟩
@[reducible] def cGame (x : M.Gam) : List Ty := [Ty.int x.rules.pits, Ty.int x.rules.seeds, Ty.bool x.rules.stores, Ty.bool x.rules.skip, Ty.bool x.rules.relay, Ty.bool x.rules.feed, Ty.bool x.rules.again, Ty.int x.rules.capture, Ty.int x.rules.slam, Ty.ints 2 x.start.pits, Ty.ints 2 x.start.stores, Ty.int x.start.player, Ty.ints 2 x.moves, Ty.ints 2 x.now.pits, Ty.ints 2 x.now.stores, Ty.int x.now.player, Ty.int x.resigned]
def lGame (xs : List M.Gam) : List Ty := xs.flatMap cGame
theorem lGame_length (xs : List M.Gam) : (lGame xs).length = xs.length * 17 := flat_len cGame 17 (fun _ => rfl) xs
instance : LenL lGame 17 := ⟨lGame_length⟩
end Go.Proofs.YtcmfnlleikcpnaaGreat

namespace Go.Proofs.YtcmfnlleikcpnaaGreat
open Go.RowKit Go.ChangeShapes Go.WideShapes Go.ChangeAt
theorem cell_of {w : World} {b o : Nat} {x : Value} (h : w.cell? ⟨b, o, none⟩ = some x) : Cell w b o x := by
  unfold World.cell? at h
  split at h
  · rename_i c t f hb
    exact ⟨c, t, f, hb, by simpa using h⟩
  all_goals simp at h
section
variable {H : Type} {enc : TypeId × Value → H} {w : World} {spare : Nat → Bool} {held : Bool} {fuel : Nat} {x : DataW H × List MemPlace} {cs : List Value}
end
end Go.Proofs.YtcmfnlleikcpnaaGreat

namespace Go.Proofs.YtcmfnlleikcpnaaGreat
open Go.RowKit Go.ChangeShapes Go.WideShapes Go.ChangeAt
section
variable {H : Type} {enc : TypeId × Value → H} {w : World} {spare : Nat → Bool} {held : Bool} {fuel : Nat} {x : DataW H × List MemPlace} {cs : List Value}
theorem byte_wf {n : Int} (h : (Lit.int .u8 n).wf = true) : 0 ≤ n ∧ n ≤ 255 := by
  simp only [Lit.wf, Bool.and_eq_true, decide_eq_true_eq] at h
  first | exact h | (obtain ⟨a, b⟩ := h; constructor <;> simp_all [IntKind.min, IntKind.max] <;> omega)
theorem bytes_ok (w : World) : ∀ (l : List Int), (∀ n ∈ l, 0 ≤ n ∧ n ≤ 255) → cellsOk w (List.replicate l.length Ty.byte) (l.map (fun n => .int .u8 n))
  | [], _ => trivial
  | n :: l, h => ⟨⟨n, rfl, h n (by simp)⟩, bytes_ok w l (fun m hm => h m (by simp [hm]))⟩
theorem rd_bytes {P : Program} {t e : TypeId} (ht : P.underlying t = some (.slice e)) (he : P.underlying e = some (.int .u8)) (hc : P.cellsOf e = 1) (h : DataW.trod enc P w 0 spare held fuel t cs = some x) : ∃ n : Nat, cellsOk w [Ty.bytes e n] cs := by
  rcases open_ints ht he hc h with ⟨rfl, _⟩ | ⟨a, len, cap, zs, rfl, _, hl, hm, hz, _, hcell, hwf⟩
  · exact ⟨0, nil_ok, trivial⟩
  · have hlz : len ≤ zs.length := by rw [hz]; split <;> omega
    have hlen : (zs.take len).length = len := by simp; omega
    refine ⟨len, ⟨by simp, some a, cap, (zs.take len).map (fun n => .int .u8 n), rfl, hl, hm, ?_, fun hp => ?_⟩, trivial⟩
    · have := bytes_ok w (zs.take len) (fun n hn => byte_wf (hwf n (List.mem_of_mem_take hn)))
      rwa [hlen] at this
    have hp : 0 < len := by simpa using hp
    obtain ⟨b, off, spot⟩ := a
    have hspot : spot = none := by simpa [Addr.add] using World.cell?_spot (hcell 0 (by omega))
    subst hspot
    refine ⟨b, off, rfl, fun j v hj => ?_⟩
    simp only [List.getElem?_map, Option.map_eq_some_iff] at hj
    obtain ⟨n, hn, rfl⟩ := hj
    rw [List.getElem?_take] at hn
    split at hn
    · rename_i hjl
      have := hcell j (by omega)
      rw [addr_add] at this
      have e : zs.getD j 0 = n := by simp [List.getD, hn]
      rw [e] at this
      exact cell_of this
    · simp at hn
end
end Go.Proofs.YtcmfnlleikcpnaaGreat

namespace Go.Proofs.YtcmfnlleikcpnaaGreat
open Go.RowKit Go.ChangeShapes Go.WideShapes Go.ChangeAt
section
variable {H : Type} {enc : TypeId × Value → H} {w : World} {spare : Nat → Bool} {held : Bool} {fuel : Nat} {x : DataW H × List MemPlace} {cs : List Value}
end
end Go.Proofs.YtcmfnlleikcpnaaGreat

namespace Go.Proofs.YtcmfnlleikcpnaaGreat.M
structure Opt where
  move : Int
  value : Int
  deriving DecidableEq
structure Puz where
  rules : Rul
  position : Pos
  depth : Int
  move : Int
  value : Int
  margin : Int
  deriving DecidableEq
def Opt.zero : Opt := ⟨0, 0⟩
def Puz.zero : Puz := ⟨Rul.zero, Pos.zero, 0, 0, 0, 0⟩
def endV (r : Rul) (p : Pos) : Int := side r p.pits p.player - side r p.pits (1 - p.player)
def moveV (x : Res) (v : Int) : Int := if x.again = true then x.gain + v else x.gain - v
def bestF (fst : Bool) (b : Int) : List Int → Int
  | [] => b
  | v :: l => bestF false (if fst = true ∨ b < v then v else b) l
def best (l : List Int) : Int := bestF true 0 l
theorem results_fact {r : Rul} {p : Pos} {x : Res} (h : x ∈ results r p) : ∃ move : Int, (make r p move).2 = 0 ∧ x = (make r p move).1 := by
  obtain ⟨m, _, h2, h3⟩ := resultsTo_mem.1 h
  exact ⟨_, h2, h3⟩
theorem results_8 {r : Rul} {p : Pos} (h : okP r p = true) : (results r p).length ≤ 8 := by
  have h1 := resultsTo_len (r := r) (p := p) r.pits.toNat
  have h2 := okP_bd h
  unfold results; omega
def val (r : Rul) : Nat → Pos → Int
  | 0, p => if (results r p).length = 0 then endV r p else 0
  | d + 1, p => if (results r p).length = 0 then endV r p else best ((results r p).map fun x => moveV x (val r d x.next))
def vals (r : Rul) (d : Nat) (p : Pos) : List Int := (results r p).map fun x => moveV x (val r d x.next)
theorem drop_some {α : Type} {l : List α} {k : Nat} {y : α} (h : l[k]? = some y) : l.drop k = y :: l.drop (k + 1) := by
  obtain ⟨hk, rfl⟩ := List.getElem?_eq_some_iff.1 h
  exact List.drop_eq_getElem_cons hk
def size (r : Rul) : Nat → Pos → Int
  | 0, _ => 1
  | d + 1, p => 1 + isum ((results r p).map fun x => size r d x.next)
theorem size_pos (r : Rul) : ∀ (d : Nat) (p : Pos), 1 ≤ size r d p
  | 0, _ => by rw [size]; omega
  | d + 1, p => by
    rw [size]
    have := nn_isum (l := (results r p).map fun x => size r d x.next) (fun v hv => by
      obtain ⟨x, _, rfl⟩ := List.mem_map.1 hv
      have := size_pos r d x.next; omega)
    omega
theorem isum_mem {l : List Int} {v : Int} (h : nn l) (hv : v ∈ l) : v ≤ isum l := by
  obtain ⟨k, hk, rfl⟩ := List.getElem_of_mem hv
  rw [← nth_eq hk]; exact nth_le_isum h k
theorem size_sub {r : Rul} {d : Nat} {p : Pos} {x : Res} (h : x ∈ results r p) : size r d x.next ≤ size r (d + 1) p := by
  have := isum_mem (l := (results r p).map fun x => size r d x.next) (v := size r d x.next) (fun v hv => by
      obtain ⟨x, _, rfl⟩ := List.mem_map.1 hv
      have := size_pos r d x.next; omega) (List.mem_map.2 ⟨x, h, rfl⟩)
  rw [size]; omega
def srchC (r : Rul) (p : Pos) (depth : Int) : Int := if okP r p = true then (if betw depth 0 8 = true then (if 3000 < size r depth.toNat p then 5 else 0) else 2) else 1
theorem srchC_ok {r : Rul} {p : Pos} {depth : Int} (h : srchC r p depth = 0) : okP r p = true ∧ 0 ≤ depth ∧ depth ≤ 8 ∧ size r depth.toNat p ≤ 3000 := by
  unfold srchC at h
  by_cases h1 : okP r p = true
  · rw [if_pos h1] at h
    by_cases h2 : betw depth 0 8 = true
    · rw [if_pos h2] at h
      by_cases h3 : 3000 < size r depth.toNat p
      · rw [if_pos h3] at h; simp at h
      · have := betw_iff.1 h2; exact ⟨h1, this.1, this.2, by omega⟩
    · rw [if_neg h2] at h; simp at h
  · rw [if_neg h1] at h; simp at h
def optOf (r : Rul) (d : Nat) (x : Res) : Opt := ⟨x.move, moveV x (val r d x.next)⟩
def opts (r : Rul) (p : Pos) (depth : Int) : List Opt := (results r p).map (optOf r (depth - 1).toNat)
theorem opts_len (r : Rul) (p : Pos) (depth : Int) : (opts r p depth).length = (results r p).length := by simp [opts]
def bOptF (b : Opt) : List Opt → Opt
  | [] => b
  | o :: l => bOptF (if b.value < o.value then o else b) l
def bOpt : List Opt → Opt
  | [] => Opt.zero
  | a :: l => bOptF a l
theorem bOptF_mem : ∀ (l : List Opt) (b : Opt), bOptF b l = b ∨ bOptF b l ∈ l
  | [], b => .inl rfl
  | o :: l, b => by
    rw [bOptF]
    rcases bOptF_mem l (if b.value < o.value then o else b) with h | h
    · rw [h]; split
      · exact .inr (by simp)
      · exact .inl rfl
    · exact .inr (by simp [h])
theorem bOpt_mem {l : List Opt} (h : l.length ≠ 0) : bOpt l ∈ l := by
  cases l with
  | nil => simp at h
  | cons a t =>
    rcases bOptF_mem t a with e | e
    · show bOptF a t ∈ _; rw [e]; simp
    · show bOptF a t ∈ _; simp [e]
theorem bOpt_make {r : Rul} {p : Pos} {depth : Int} (h : (results r p).length ≠ 0) : (make r p (bOpt (opts r p depth)).move).2 = 0 ∧ (make r p (bOpt (opts r p depth)).move).1 ∈ results r p := by
  have h1 := bOpt_mem (l := opts r p depth) (by rw [opts_len]; exact h)
  obtain ⟨x, hx, e⟩ := List.mem_map.1 h1
  obtain ⟨m, hm, rfl⟩ := results_fact hx
  have h3 := (make_ok hm).2.2.2.2.1
  have h4 : (bOpt (opts r p depth)).move = m := by rw [← e]; exact h3
  rw [h4]; exact ⟨hm, hx⟩
def lineT (r : Rul) : Nat → Pos → List Int
  | 0, _ => []
  | d + 1, p => if (results r p).length = 0 then [] else (bOpt (opts r p (d + 1 : Nat))).move :: lineT r d (make r p (bOpt (opts r p (d + 1 : Nat))).move).1.next
theorem lineT_end {r : Rul} {d : Nat} {p : Pos} (h : (results r p).length = 0) : lineT r d p = [] := by
  cases d with
  | zero => rfl
  | succ d => rw [lineT, if_pos h]
structure Line (r : Rul) (p0 : Pos) (d0 : Int) (out : List Int) (p : Pos) (depth : Int) : Prop where
  ok : okP r p = true
  lo : 0 ≤ depth
  hi : depth ≤ 8
  sz : size r depth.toNat p ≤ 3000
  eq : out ++ lineT r depth.toNat p = lineT r d0.toNat p0
  ln : (out.length : Int) + depth = d0
theorem Line.zero {r : Rul} {p : Pos} {d : Int} (h : srchC r p d = 0) : Line r p d [] p d := by
  obtain ⟨a, b, c, e⟩ := srchC_ok h
  exact ⟨a, b, c, e, rfl, by simp⟩
theorem Line.end_ {r : Rul} {p0 p : Pos} {d0 d : Int} {out : List Int} (h : Line r p0 d0 out p d) (hd : (results r p).length = 0) : lineT r d0.toNat p0 = out := by
  have := h.eq; rw [lineT_end hd, List.append_nil] at this; exact this.symm
theorem Line.done {r : Rul} {p0 p : Pos} {d0 d : Int} {out : List Int} (h : Line r p0 d0 out p d) (hd : d ≤ 0) : lineT r d0.toNat p0 = out := by
  have := h.eq; rw [show d.toNat = 0 by omega, lineT, List.append_nil] at this; exact this.symm
theorem Line.step {r : Rul} {p0 p : Pos} {d0 d : Int} {out : List Int} (h : Line r p0 d0 out p d) (hd : 0 < d) (hl : (results r p).length ≠ 0) :
    Line r p0 d0 (out ++ [(bOpt (opts r p d)).move]) (make r p (bOpt (opts r p d)).move).1.next (d - 1) := by
  have hm := bOpt_make (depth := d) hl
  have e1 : d.toNat = (d - 1).toNat + 1 := by omega
  have e2 : (((d - 1).toNat + 1 : Nat) : Int) = d := by omega
  refine ⟨(make_ok hm.1).2.2.2.1, by omega, by have := h.hi; omega, ?_, ?_, ?_⟩
  · have := size_sub (d := (d - 1).toNat) hm.2
    rw [← e1] at this; have := h.sz; omega
  · have := h.eq
    rw [e1, lineT, if_neg hl, e2] at this
    rw [List.append_assoc]; exact this
  · have := h.ln; simp; omega
def second (m : Int) (s : Int) : List Opt → Int
  | [] => s
  | o :: l => second m (if o.move = m then s else if s < o.value then o.value else s) l
def turnP (r : Rul) (p : Pos) : Pos := ⟨p.pits.drop r.pits.toNat ++ p.pits.take r.pits.toNat, [nth p.stores 1, nth p.stores 0], 1 - p.player⟩
structure SmallP (p : Pos) : Prop where
  sp : p.pits.length ≤ 4194304
  ss : p.stores.length ≤ 4194304
theorem SmallP.zero : SmallP Pos.zero := ⟨by decide, by decide⟩
theorem SmallP.ok {r : Rul} {p : Pos} (h : okP r p = true) : SmallP p := ⟨(okP_len h).1, (okP_len h).2⟩
end Go.Proofs.YtcmfnlleikcpnaaGreat.M

namespace Go.Proofs.YtcmfnlleikcpnaaGreat.M
section
variable {α : Type} (f : Int → α → α) (sz : α → Int)
variable (hf : Int → α → Int)
def heldL : Int → List α → Int
  | k, [] => k
  | k, x :: l => if hf k x < 0 then -1 else heldL (hf k x) l
end
section
variable {α : Type}
theorem upto_step {a b : List α} {k : Nat} {x : α} (h : a.take k = b.take k) (ha : a[k]? = some x) (hb : b[k]? = some x) : a.take (k + 1) = b.take (k + 1) := by
  rw [List.take_add_one, List.take_add_one, h, ha, hb]
theorem upto_done {a b : List α} {k : Nat} (h : a.take k = b.take k) (ha : a.length ≤ k) (hb : b.length ≤ k) : a = b := by
  rwa [List.take_of_length_le ha, List.take_of_length_le hb] at h
theorem upto_ne {a b : List α} {k : Nat} {x y : α} (ha : a[k]? = some x) (hb : b[k]? = some y) (h : x ≠ y) : a ≠ b := by
  rintro rfl; rw [ha] at hb; cases hb; exact h rfl
end
def hO (k : Int) (x : Opt) : Int := if x.move ≠ k then -1 else if x.value ≠ k + 1 then -1 else k + 2
def hQ (k : Int) (p : Pos) : Int := if held p.pits k < 0 then -1 else if held p.stores (held p.pits k) < 0 then -1 else if p.player ≠ held p.stores (held p.pits k) then -1 else held p.stores (held p.pits k) + 1
end Go.Proofs.YtcmfnlleikcpnaaGreat.M

namespace Go.Proofs.YtcmfnlleikcpnaaGreat.M
def stdNames : List (List UInt8) := [[107, 97, 108, 97, 104], [109, 105, 110, 105], [111, 119, 97, 114, 101], [114, 101, 108, 97, 121]]
def cutG (g : Gam) (n : Nat) : Gam := ⟨g.rules, g.start, g.moves.take n, (playedP g).getD n Pos.zero, -1⟩
theorem cutG_now {g : Gam} {n : Nat} {y : Pos} (h : (playedP g)[n]? = some y) : (cutG g n).now = y := by simp [cutG, List.getD, h]
def undo (g : Gam) : Gam × Int := if okG g = true then (if g.moves.length = 0 ∨ 0 ≤ g.resigned then (Gam.zero, 6) else (cutG g ((g.moves.length : Int) - 1).toNat, 0)) else (Gam.zero, 1)
theorem undo_0 {g : Gam} (h : okG g = true) (h2 : ¬ (g.moves.length = 0 ∨ 0 ≤ g.resigned)) : undo g = (cutG g ((g.moves.length : Int) - 1).toNat, 0) := by unfold undo; rw [if_pos h, if_neg h2]
def Cut (g : Gam) (k : Nat) : Prop := ∀ j, j < k → endOf (cutG g j) = 0
theorem Cut.zero (g : Gam) : Cut g 0 := fun j h => by omega
theorem Cut.step {g : Gam} {k : Nat} (h : Cut g k) (h2 : endOf (cutG g k) = 0) : Cut g (k + 1) := fun j hj => by
  by_cases e : j = k
  · subst e; exact h2
  · exact h j (by omega)
theorem play_120 {g : Gam} {move : Int} (h : g.moves.length ≤ 120) (hz : (play g move).2 = 0) : (play g move).1.moves.length ≤ 120 := by
  by_cases h1 : 0 ≤ g.resigned
  · rw [play_6 h1] at hz; simp at hz
  by_cases h2 : g.moves.length = 120
  · rw [play_5 h1 h2] at hz; simp at hz
  by_cases h3 : (make g.rules g.now move).2 = 0
  · rw [play_0 h1 h2 h3]; simp; omega
  · rw [play_c h1 h2 h3] at hz; exact absurd hz h3
def startP (r : Rul) : Pos := ⟨List.replicate (2 * r.pits).toNat r.seeds, [0, 0], 0⟩
theorem mul01 {a n : Int} (h0 : 0 ≤ a) (h1 : a = 0 ∨ a < 2) (n0 : 0 ≤ n) (n8 : n ≤ 8) : 0 ≤ a * n ∧ a * n ≤ n ∧ (a + 1) * n = a * n + n := by
  have h : a = 0 ∨ a = 1 := by omega
  rcases h with rfl | rfl <;> simp <;> omega
def legal (r : Rul) (p : Pos) : List Int := if okP r p = true then (results r p).map (·.move) else []
theorem legal_yes {r : Rul} {p : Pos} (h : okP r p = true) : legal r p = (results r p).map (·.move) := by unfold legal; rw [if_pos h]
theorem legal_no {r : Rul} {p : Pos} (h : okP r p = false) : legal r p = [] := by unfold legal; rw [if_neg (by simp [h])]
theorem legal_len (r : Rul) (p : Pos) : (legal r p).length ≤ 8 := by
  cases h : okP r p
  · rw [legal_no h]; simp
  · rw [legal_yes h, List.length_map]; exact results_8 h
theorem moves_step {l : List Res} {k : Nat} {y : Res} (h : l[k]? = some y) : (l.map (·.move)).take (k + 1) = (l.map (·.move)).take k ++ [y.move] := by
  rw [List.take_add_one, List.getElem?_map, h]; rfl
end Go.Proofs.YtcmfnlleikcpnaaGreat.M

namespace Go.Proofs.YtcmfnlleikcpnaaGreat.M
def cmpL : List Int → List Int → Int
  | [], [] => 0
  | [], _ :: _ => -1
  | _ :: _, [] => 1
  | a :: x, b :: y => if a < b then -1 else if b < a then 1 else cmpL x y
theorem cmpL_lt {a b : List Int} {k : Nat} (h : cmpL (a.drop k) (b.drop k) = cmpL a b) (ha : k < a.length) (hb : k < b.length) (hl : nth a k < nth b k) : cmpL a b = -1 := by
  rw [← h, drop_nth ha, drop_nth hb, cmpL, if_pos hl]
theorem cmpL_gt {a b : List Int} {k : Nat} (h : cmpL (a.drop k) (b.drop k) = cmpL a b) (ha : k < a.length) (hb : k < b.length) (hl : nth b k < nth a k) : cmpL a b = 1 := by
  rw [← h, drop_nth ha, drop_nth hb, cmpL, if_neg (by omega), if_pos hl]
theorem cmpL_step {a b : List Int} {k : Nat} (h : cmpL (a.drop k) (b.drop k) = cmpL a b) (ha : k < a.length) (hb : k < b.length) (h1 : ¬ nth a k < nth b k) (h2 : ¬ nth b k < nth a k) : cmpL (a.drop (k + 1)) (b.drop (k + 1)) = cmpL a b := by
  rw [← h, drop_nth ha, drop_nth hb, cmpL, if_neg h1, if_neg h2]
theorem cmpL_end {a b : List Int} {k : Nat} (h : cmpL (a.drop k) (b.drop k) = cmpL a b) (hk : a.length ≤ k ∨ b.length ≤ k) (ha : k ≤ a.length) (hb : k ≤ b.length) : cmpL a b = if a.length < b.length then -1 else if b.length < a.length then 1 else 0 := by
  rw [← h]
  rcases Nat.lt_trichotomy a.length b.length with hl | hl | hl
  · rw [if_pos hl, List.drop_eq_nil_of_le (by omega), drop_nth (by omega)]; rfl
  · rw [if_neg (by omega), if_neg (by omega), List.drop_eq_nil_of_le (by omega), List.drop_eq_nil_of_le (by omega)]; rfl
  · rw [if_neg (by omega), if_pos hl, @List.drop_eq_nil_of_le _ b k (by omega), drop_nth (by omega)]; rfl
theorem cmpL_eq : ∀ {a b : List Int}, cmpL a b = 0 ↔ a = b
  | [], [] => by simp [cmpL]
  | [], _ :: _ => by simp [cmpL]
  | _ :: _, [] => by simp [cmpL]
  | a :: x, b :: y => by
    rw [cmpL]; split
    · rename_i h; simp; intro h2; omega
    · split
      · rename_i h; simp; intro h2; omega
      · rename_i h1 h2
        rw [cmpL_eq (a := x) (b := y)]
        have : a = b := by omega
        simp [this]
@[reducible] def posE (pits : List Int) : Pos := ⟨pits, [0, 0], 0⟩
def chAt (r : Rul) (p : Pos) (cs : List Cho) (k : Nat) : Bool :=
  (decide (k = 0) || decide ((cho cs (k - 1)).move < (cho cs k).move)) && decide ((make r p (cho cs k).move).2 = 0) && betw (cho cs k).games 1 1000000 && betw (cho cs k).score 0 (2 * (cho cs k).games)
def okCs (r : Rul) (p : Pos) (cs : List Cho) : Bool := (List.range cs.length).all (chAt r p cs)
def okE (r : Rul) (e : Ent) : Bool := okP r (posE e.pits) && decide (0 < e.choices.length) && okCs r (posE e.pits) e.choices
def entAt (r : Rul) (es : List Ent) (k : Nat) : Bool := (decide (k = 0) || decide (cmpL (ent es (k - 1)).pits (ent es k).pits < 0)) && okE r (ent es k)
def okB (b : Boo) : Bool := okR b.rules && decide (b.entries.length ≤ 200) && (List.range b.entries.length).all (entAt b.rules b.entries)
def AllB (f : Nat → Bool) (k : Nat) : Prop := ∀ i, i < k → f i = true
theorem AllB.zero (f : Nat → Bool) : AllB f 0 := fun i h => absurd h (by omega)
theorem AllB.step {f : Nat → Bool} {k : Nat} (h : AllB f k) (hk : f k = true) : AllB f (k + 1) := fun i hi => by
  by_cases e : i = k
  · rw [e]; exact hk
  · exact h i (by omega)
theorem all_yes {f : Nat → Bool} {n k : Nat} (h : AllB f k) (hk : n ≤ k) : (List.range n).all f = true := by
  rw [List.all_eq_true]; intro i hi; exact h i (by have := List.mem_range.1 hi; omega)
theorem all_no {f : Nat → Bool} {n k : Nat} (hk : k < n) (h : f k = false) : (List.range n).all f = false := by
  cases e : (List.range n).all f
  · rfl
  · rw [List.all_eq_true] at e; rw [e k (List.mem_range.2 hk)] at h; exact absurd h (by simp)
theorem all_at {f : Nat → Bool} {n k : Nat} (h : (List.range n).all f = true) (hk : k < n) : f k = true := by
  rw [List.all_eq_true] at h; exact h k (List.mem_range.2 hk)
theorem pred_nat {k : Nat} : ((k : Int) - 1).toNat = k - 1 := by omega
theorem prev_lt (k : Nat) (a b : Int) : (decide (k = 0) || decide (a < b)) = !(decide (0 < (k : Int)) && decide (b ≤ a)) := by
  by_cases hk : k = 0
  · subst hk; simp
  · have h1 : (0 : Int) < (k : Int) := by omega
    rw [decide_eq_false hk, decide_eq_true h1]
    by_cases hab : a < b
    · rw [decide_eq_true hab, decide_eq_false (by omega)]; rfl
    · rw [decide_eq_false hab, decide_eq_true (by omega)]; rfl
theorem chAt_eq (r : Rul) (p : Pos) (cs : List Cho) (k : Nat) : chAt r p cs k = !(((decide (0 < (k : Int)) && decide ((cho cs k).move ≤ (cho cs (((k : Int) - 1).toNat)).move) || !decide ((make r p (cho cs k).move).2 = 0)) || !betw (cho cs k).games 1 1000000) || !betw (cho cs k).score 0 (2 * (cho cs k).games)) := by
  unfold chAt
  rw [prev_lt, pred_nat]
  simp only [Bool.not_or, Bool.not_not]
theorem chAt_yes {r : Rul} {p : Pos} {cs : List Cho} {k : Nat} (h : (((decide (0 < (k : Int)) && decide ((cho cs k).move ≤ (cho cs (((k : Int) - 1).toNat)).move) || !decide ((make r p (cho cs k).move).2 = 0)) || !betw (cho cs k).games 1 1000000) || !betw (cho cs k).score 0 (2 * (cho cs k).games)) = false) : chAt r p cs k = true := by rw [chAt_eq, h]; rfl
theorem chAt_no {r : Rul} {p : Pos} {cs : List Cho} {k : Nat} (h : (((decide (0 < (k : Int)) && decide ((cho cs k).move ≤ (cho cs (((k : Int) - 1).toNat)).move) || !decide ((make r p (cho cs k).move).2 = 0)) || !betw (cho cs k).games 1 1000000) || !betw (cho cs k).score 0 (2 * (cho cs k).games)) = true) : chAt r p cs k = false := by rw [chAt_eq, h]; rfl
theorem chAt_prev {r : Rul} {p : Pos} {cs : List Cho} {k : Nat} (h : (decide (0 < (k : Int)) && decide ((cho cs k).move ≤ (cho cs (((k : Int) - 1).toNat)).move)) = true) : chAt r p cs k = false := chAt_no (by rw [h]; rfl)
def ch18 (cs : List Cho) (k : Nat) : Bool := ((decide (0 < (k : Int)) && decide ((cho cs k).move ≤ (cho cs (((k : Int) - 1).toNat)).move)) || !betw (cho cs k).games 1 1000000) || !betw (cho cs k).score 0 (2 * (cho cs k).games)
theorem chAt_18 {r : Rul} {p : Pos} {cs : List Cho} {k : Nat} (h : ch18 cs k = true) : chAt r p cs k = false := chAt_no (by
  unfold ch18 at h; revert h
  generalize (decide (0 < (k : Int)) && decide ((cho cs k).move ≤ (cho cs (((k : Int) - 1).toNat)).move)) = a
  generalize betw (cho cs k).games 1 1000000 = b
  generalize betw (cho cs k).score 0 (2 * (cho cs k).games) = c
  cases a <;> cases b <;> cases c <;> simp)
theorem chAt_21 {r : Rul} {p : Pos} {cs : List Cho} {k : Nat} (h1 : ¬ (make r p (cho cs k).move).2 = 0) : chAt r p cs k = false := chAt_no (by rw [decide_eq_false h1]; simp)
theorem chAt_all {r : Rul} {p : Pos} {cs : List Cho} {k : Nat} (h : ch18 cs k = false) (h1 : (make r p (cho cs k).move).2 = 0) : chAt r p cs k = true := chAt_yes (by
  rw [decide_eq_true h1]
  unfold ch18 at h; revert h
  generalize (decide (0 < (k : Int)) && decide ((cho cs k).move ≤ (cho cs (((k : Int) - 1).toNat)).move)) = a
  generalize betw (cho cs k).games 1 1000000 = b
  generalize betw (cho cs k).score 0 (2 * (cho cs k).games) = c
  cases a <;> cases b <;> cases c <;> simp)
theorem prev_lt0 (k : Nat) (c : Int) : (decide (k = 0) || decide (c < 0)) = !(decide (0 < (k : Int)) && decide (0 ≤ c)) := prev_lt k c 0
theorem entAt_eq (r : Rul) (es : List Ent) (k : Nat) : entAt r es k = !((decide (0 < (k : Int)) && decide (0 ≤ cmpL (ent es (((k : Int) - 1).toNat)).pits (ent es k).pits)) || !okE r (ent es k)) := by
  unfold entAt
  rw [prev_lt0, pred_nat]
  simp only [Bool.not_or, Bool.not_not]
theorem entAt_yes {r : Rul} {es : List Ent} {k : Nat} (h : ((decide (0 < (k : Int)) && decide (0 ≤ cmpL (ent es (((k : Int) - 1).toNat)).pits (ent es k).pits)) || !okE r (ent es k)) = false) : entAt r es k = true := by rw [entAt_eq, h]; rfl
theorem entAt_no {r : Rul} {es : List Ent} {k : Nat} (h : ((decide (0 < (k : Int)) && decide (0 ≤ cmpL (ent es (((k : Int) - 1).toNat)).pits (ent es k).pits)) || !okE r (ent es k)) = true) : entAt r es k = false := by rw [entAt_eq, h]; rfl
theorem entAt_yes' {r : Rul} {es : List Ent} {k : Nat} (h : (!okE r (ent es k) || (decide (0 < (k : Int)) && decide (0 ≤ cmpL (ent es (((k : Int) - 1).toNat)).pits (ent es k).pits))) = false) : entAt r es k = true := entAt_yes (by rw [Bool.or_comm]; exact h)
theorem entAt_no' {r : Rul} {es : List Ent} {k : Nat} (h : (!okE r (ent es k) || (decide (0 < (k : Int)) && decide (0 ≤ cmpL (ent es (((k : Int) - 1).toNat)).pits (ent es k).pits))) = true) : entAt r es k = false := entAt_no (by rw [Bool.or_comm]; exact h)
theorem okE_p {r : Rul} {e : Ent} (h : okP r (posE e.pits) = false ∨ e.choices.length = 0) : okE r e = false := by
  unfold okE
  rcases h with h | h
  · rw [h]; rfl
  · rw [h]; simp
theorem okE_cs {r : Rul} {e : Ent} (h1 : okP r (posE e.pits) = true) (h2 : e.choices.length ≠ 0) : okE r e = okCs r (posE e.pits) e.choices := by
  unfold okE; rw [h1, decide_eq_true (by omega)]; simp
theorem okE_parts {r : Rul} {e : Ent} (h : okE r e = true) : okP r (posE e.pits) = true ∧ 0 < e.choices.length ∧ okCs r (posE e.pits) e.choices = true := by
  unfold okE at h; simp only [Bool.and_eq_true, decide_eq_true_eq] at h; exact ⟨h.1.1, h.1.2, h.2⟩
theorem okB_r {b : Boo} (h : okR b.rules = false ∨ 200 < b.entries.length) : okB b = false := by
  unfold okB
  rcases h with h | h
  · rw [h]; rfl
  · rw [decide_eq_false (by omega)]; simp
theorem okB_es {b : Boo} (h1 : okR b.rules = true) (h2 : b.entries.length ≤ 200) : okB b = (List.range b.entries.length).all (entAt b.rules b.entries) := by
  unfold okB; rw [h1, decide_eq_true h2]; simp
theorem okB_parts {b : Boo} (h : okB b = true) : okR b.rules = true ∧ b.entries.length ≤ 200 ∧ (List.range b.entries.length).all (entAt b.rules b.entries) = true := by
  unfold okB at h; simp only [Bool.and_eq_true, decide_eq_true_eq] at h; exact ⟨h.1.1, h.1.2, h.2⟩
theorem okB_ent {b : Boo} (h : okB b = true) {k : Nat} (hk : k < b.entries.length) : okE b.rules (ent b.entries k) = true := by
  have := all_at (okB_parts h).2.2 hk
  unfold entAt at this; simp only [Bool.and_eq_true] at this; exact this.2
end Go.Proofs.YtcmfnlleikcpnaaGreat.M

namespace Go.Proofs.YtcmfnlleikcpnaaGreat.M
section
variable {α : Type}
end
theorem cho_set {cs : List Cho} {k : Nat} {y : Cho} (h : k < cs.length) : cho (cs.set k y) k = y := by simp [cho, List.getD, h]
theorem ent_ext {a b : Ent} (h1 : a.pits = b.pits) (h2 : a.choices = b.choices) : a = b := by cases a; cases b; simp_all
theorem boo_ext {a b : Boo} (h1 : a.rules = b.rules) (h2 : a.entries = b.entries) : a = b := by cases a; cases b; simp_all
def totE : List Ent → Nat
  | [] => 0
  | e :: es => e.pits.length + e.choices.length + totE es
theorem totE_app : ∀ (a b : List Ent), totE (a ++ b) = totE a + totE b
  | [], b => by simp [totE]
  | e :: a, b => by rw [List.cons_append, totE, totE_app a b, totE]; omega
theorem totE_mem {es : List Ent} {x : Ent} (h : x ∈ es) : x.pits.length + x.choices.length ≤ totE es := by
  induction es with
  | nil => simp at h
  | cons e es ih =>
    rcases List.mem_cons.1 h with rfl | h
    · rw [totE]; omega
    · have := ih h; rw [totE]; omega
theorem totE_small {es : List Ent} {n : Nat} (h : totE es ≤ n) : ∀ x ∈ es, x.pits.length ≤ n ∧ x.choices.length ≤ n := fun x hx => by have := totE_mem hx; omega
def hC (k : Int) (x : Cho) : Int := if x.move ≠ k then -1 else if x.games ≠ k + 1 then -1 else if x.score ≠ k + 2 then -1 else k + 3
def hE (k : Int) (e : Ent) : Int := if held e.pits k < 0 then -1 else if heldL hC (held e.pits k) e.choices < 0 then -1 else heldL hC (held e.pits k) e.choices
def newB (r : Rul) : Boo × Int := if okR r = true then (⟨r, []⟩, 0) else (Boo.zero, 1)
theorem newB_0 {r : Rul} (h : okR r = true) : newB r = (⟨r, []⟩, 0) := by unfold newB; rw [if_pos h]
theorem newB_1 {r : Rul} (h : okR r = false) : newB r = (Boo.zero, 1) := by unfold newB; rw [if_neg (by simp [h])]
end Go.Proofs.YtcmfnlleikcpnaaGreat.M

namespace Go.Proofs.YtcmfnlleikcpnaaGreat.M
theorem cmpL_neg : ∀ a b : List Int, cmpL a b = -cmpL b a
  | [], [] => rfl
  | [], _ :: _ => rfl
  | _ :: _, [] => rfl
  | a :: x, b :: y => by
    rw [cmpL, cmpL]
    by_cases h1 : a < b
    · rw [if_pos h1, if_neg (by omega), if_pos h1]
    · rw [if_neg h1]
      by_cases h2 : b < a
      · rw [if_pos h2, if_pos h2]; rfl
      · rw [if_neg h2, if_neg h2, if_neg h1]; exact cmpL_neg x y
theorem cmpL_trans : ∀ {a b c : List Int}, cmpL a b < 0 → cmpL b c < 0 → cmpL a c < 0
  | [], [], _, h, _ => by simp [cmpL] at h
  | _ :: _, [], _, h, _ => by simp [cmpL] at h
  | _, _ :: _, [], _, h => by simp [cmpL] at h
  | [], _ :: _, _ :: _, _, _ => by simp [cmpL]
  | a :: x, b :: y, c :: z, h1, h2 => by
    rw [cmpL] at h1 h2 ⊢
    by_cases e1 : a < b
    · by_cases e2 : b < c
      · rw [if_pos (by omega)]; omega
      · rw [if_neg e2] at h2
        by_cases e3 : c < b
        · rw [if_pos e3] at h2; omega
        · rw [if_pos (by omega)]; omega
    · rw [if_neg e1] at h1
      by_cases e4 : b < a
      · rw [if_pos e4] at h1; omega
      · rw [if_neg e4] at h1
        have : a = b := by omega
        subst this
        by_cases e2 : a < c
        · rw [if_pos e2]; omega
        · rw [if_neg e2] at h2 ⊢
          by_cases e3 : c < a
          · rw [if_pos e3] at h2; omega
          · rw [if_neg e3] at h2 ⊢; exact cmpL_trans h1 h2
def viewP (r : Rul) (p : Pos) : Pos := if p.player = 0 then p else turnP r p
theorem viewP_0 {r : Rul} {p : Pos} (h : p.player = 0) : viewP r p = p := by unfold viewP; rw [if_pos h]
theorem viewP_1 {r : Rul} {p : Pos} (h : ¬ p.player = 0) : viewP r p = turnP r p := by unfold viewP; rw [if_neg h]
theorem viewP_len {r : Rul} {p : Pos} (h : okP r p = true) : (viewP r p).pits.length ≤ 4194304 ∧ (viewP r p).stores.length ≤ 4194304 := by
  have hb := okP_bd h
  unfold viewP; split
  · omega
  · simp [turnP]; omega
def lookE : List Ent → List Int → List Cho
  | [], _ => []
  | e :: es, pits => if e.pits = pits then e.choices else lookE es pits
theorem lookE_step {es : List Ent} {pits : List Int} {k : Nat} (h : lookE (es.drop k) pits = lookE es pits) (hk : k < es.length) (hn : (ent es k).pits ≠ pits) : lookE (es.drop (k + 1)) pits = lookE es pits := by
  rw [drop_some (ent_get hk), lookE, if_neg hn] at h; exact h
theorem lookE_hit {es : List Ent} {pits : List Int} {k : Nat} (h : lookE (es.drop k) pits = lookE es pits) (hk : k < es.length) (hn : (ent es k).pits = pits) : lookE es pits = (ent es k).choices := by
  rw [← h, drop_some (ent_get hk), lookE, if_pos hn]
theorem lookE_end {es : List Ent} {pits : List Int} {k : Nat} (h : lookE (es.drop k) pits = lookE es pits) (hk : es.length ≤ k) : lookE es pits = [] := by
  rw [← h, List.drop_eq_nil_of_le hk]; rfl
def findE : List Ent → List Int → Nat
  | [], _ => 0
  | e :: es, pits => if 0 ≤ cmpL e.pits pits then 0 else findE es pits + 1
theorem findE_step {es : List Ent} {pits : List Int} {k : Nat} (h : k + findE (es.drop k) pits = findE es pits) (hk : k < es.length) (hn : ¬ 0 ≤ cmpL (ent es k).pits pits) : k + 1 + findE (es.drop (k + 1)) pits = findE es pits := by
  rw [drop_some (ent_get hk), findE, if_neg hn] at h; omega
theorem findE_hit {es : List Ent} {pits : List Int} {k : Nat} (h : k + findE (es.drop k) pits = findE es pits) (hk : k < es.length) (hn : 0 ≤ cmpL (ent es k).pits pits) : findE es pits = k := by
  rw [← h, drop_some (ent_get hk), findE, if_pos hn]; rfl
theorem findE_end {es : List Ent} {pits : List Int} {k : Nat} (h : k + findE (es.drop k) pits = findE es pits) (hk : es.length ≤ k) (hk2 : k ≤ es.length) : findE es pits = es.length := by
  rw [← h, List.drop_eq_nil_of_le hk]; show k + 0 = _; omega
def hasE (es : List Ent) (pits : List Int) : Bool := decide (findE es pits < es.length) && decide (cmpL (ent es (findE es pits)).pits pits = 0)
theorem hasE_hit {es : List Ent} {pits : List Int} {k : Nat} (h : findE es pits = k) (hk : k < es.length) : hasE es pits = decide (cmpL (ent es k).pits pits = 0) := by
  unfold hasE; rw [h, decide_eq_true hk]; simp
theorem hasE_end {es : List Ent} {pits : List Int} (h : findE es pits = es.length) : hasE es pits = false := by
  unfold hasE; rw [h]; simp
theorem hasE_lt {es : List Ent} {pits : List Int} (h : hasE es pits = true) : findE es pits < es.length := by
  unfold hasE at h; simp only [Bool.and_eq_true, decide_eq_true_eq] at h; exact h.1
theorem findE_le (es : List Ent) (pits : List Int) : findE es pits ≤ es.length := by
  induction es with
  | nil => simp [findE]
  | cons e es ih => rw [findE]; split <;> simp; exact ih
theorem hasE_look {es : List Ent} {pits : List Int} (h : hasE es pits = true) : lookE es pits = (ent es (findE es pits)).choices := by
  induction es with
  | nil => simp [hasE] at h
  | cons e es ih =>
    have hlt := hasE_lt h
    unfold hasE at h
    rw [findE] at h hlt ⊢
    rw [lookE]
    by_cases hc : 0 ≤ cmpL e.pits pits
    · rw [if_pos hc] at h ⊢
      have he : e.pits = pits := by
        simp only [Bool.and_eq_true, decide_eq_true_eq] at h
        exact cmpL_eq.1 h.2
      rw [if_pos he]; rfl
    · rw [if_neg hc] at h ⊢
      rw [if_neg (fun he => hc (by rw [cmpL_eq.2 he]; omega))]
      exact ih (by unfold hasE; simpa [ent] using h)
def SortE (es : List Ent) : Prop := ∀ i j, i < j → j < es.length → cmpL (ent es i).pits (ent es j).pits < 0
theorem sortE_of {r : Rul} {es : List Ent} (h : (List.range es.length).all (entAt r es) = true) : SortE es := by
  intro i j hij hj
  induction j with
  | zero => omega
  | succ j ih =>
    have h1 : cmpL (ent es j).pits (ent es (j + 1)).pits < 0 := by
      have := all_at h hj
      unfold entAt at this
      simp only [Bool.and_eq_true, Bool.or_eq_true, decide_eq_true_eq] at this
      rcases this.1 with h0 | h0
      · omega
      · exact h0
    by_cases e : i = j
    · rw [e]; exact h1
    · exact cmpL_trans (ih (by omega) (by omega)) h1
theorem SortE.tail {e : Ent} {es : List Ent} (h : SortE (e :: es)) : SortE es := fun i j hij hj => by
  have := h (i + 1) (j + 1) (by omega) (by simp; omega)
  simpa [ent] using this
theorem look_none {es : List Ent} {pits : List Int} (hs : SortE es) (h : hasE es pits = false) : lookE es pits = [] := by
  induction es with
  | nil => rfl
  | cons e es ih =>
    rw [lookE]
    by_cases hc : 0 ≤ cmpL e.pits pits
    · have hne : ¬ e.pits = pits := fun he => by
        unfold hasE at h
        rw [findE, if_pos hc] at h
        have : cmpL (ent (e :: es) 0).pits pits = 0 := cmpL_eq.2 he
        simp [this] at h
      rw [if_neg hne]
      have hgt : cmpL pits e.pits < 0 := by
        rw [cmpL_neg]
        have : cmpL e.pits pits ≠ 0 := fun h0 => hne (cmpL_eq.1 h0)
        omega
      -- none behind it is the same
      have key : ∀ l : List Ent, (∀ x ∈ l, cmpL pits x.pits < 0) → lookE l pits = [] := fun l => by
        induction l with
        | nil => exact fun _ => rfl
        | cons x l ih =>
          intro hx
          rw [lookE, if_neg]
          · exact ih fun y hy => hx y (by simp [hy])
          · intro he
            have := hx x (by simp)
            rw [← he, cmpL_eq.2 rfl] at this; omega
      refine key es fun x hx => ?_
      obtain ⟨i, hi⟩ := List.mem_iff_getElem?.1 hx
      have hil := (List.getElem?_eq_some_iff.1 hi).1
      have := hs 0 (i + 1) (by omega) (by simp; omega)
      have e1 : ent (e :: es) (i + 1) = x := by simp [ent, List.getD, hi]
      rw [e1] at this
      exact cmpL_trans hgt this
    · rw [if_neg (fun he => hc (by rw [cmpL_eq.2 he]; omega))]
      refine ih hs.tail ?_
      unfold hasE at h ⊢
      rw [findE, if_neg hc] at h
      simpa [ent] using h
theorem lookE_mem {es : List Ent} {pits : List Int} {n : Nat} (h : ∀ x ∈ es, x.choices.length ≤ n) : (lookE es pits).length ≤ n := by
  induction es with
  | nil => simp [lookE]
  | cons e es ih =>
    rw [lookE]; split
    · exact h e (by simp)
    · exact ih fun x hx => h x (by simp [hx])
theorem lookE_ok {r : Rul} {es : List Ent} {pits : List Int} (h : ∀ x ∈ es, okE r x = true) : lookE es pits = [] ∨ ∃ x ∈ es, x.pits = pits ∧ lookE es pits = x.choices := by
  induction es with
  | nil => exact .inl rfl
  | cons e es ih =>
    rw [lookE]; split
    · rename_i he; exact .inr ⟨e, by simp, he, rfl⟩
    · rcases ih fun x hx => h x (by simp [hx]) with h1 | ⟨x, h1, h2⟩
      · exact .inl h1
      · exact .inr ⟨x, by simp [h1], h2⟩
theorem okB_all {b : Boo} (h : okB b = true) : ∀ x ∈ b.entries, okE b.rules x = true := fun x hx => by
  obtain ⟨i, hi⟩ := List.mem_iff_getElem?.1 hx
  have hil := (List.getElem?_eq_some_iff.1 hi).1
  have := okB_ent h hil
  rwa [show ent b.entries i = x by simp [ent, List.getD, hi]] at this
theorem okB_sort {b : Boo} (h : okB b = true) : SortE b.entries := sortE_of (okB_parts h).2.2
def ChoB (l : List Cho) : Prop := ∀ x ∈ l, 1 ≤ x.games ∧ x.games ≤ 1000000 ∧ 0 ≤ x.score ∧ x.score ≤ 2000000
theorem okCs_b {r : Rul} {p : Pos} {cs : List Cho} (h : okCs r p cs = true) : ChoB cs := fun x hx => by
  obtain ⟨i, hi⟩ := List.mem_iff_getElem?.1 hx
  have hil := (List.getElem?_eq_some_iff.1 hi).1
  have := all_at h hil
  unfold chAt at this
  simp only [Bool.and_eq_true] at this
  rw [show cho cs i = x by simp [cho, List.getD, hi]] at this
  have h1 := betw_iff.1 this.1.2
  have h2 := betw_iff.1 this.2
  omega
theorem lookE_b {b : Boo} (h : okB b = true) (pits : List Int) : ChoB (lookE b.entries pits) := by
  rcases lookE_ok (pits := pits) (okB_all h) with h1 | ⟨x, h1, _, h2⟩
  · rw [h1]; exact fun _ h => by simp at h
  · rw [h2]; exact okCs_b (okE_parts (okB_all h x h1)).2.2
def better (c t : Cho) : Bool := decide (t.score * c.games < c.score * t.games) || (decide (c.score * t.games = t.score * c.games) && decide (t.games < c.games))
theorem better_self (c : Cho) : better c c = false := by unfold better; simp
def cbF (b : Cho) : List Cho → Cho
  | [] => b
  | c :: l => cbF (if better c b = true then c else b) l
def cbest (l : List Cho) : Cho := cbF (cho l 0) l
theorem cbF_yes {l : List Cho} {b : Cho} {k : Nat} {X : Cho} (h : cbF b (l.drop k) = X) (hk : k < l.length) (hb : better (cho l k) b = true) : cbF (cho l k) (l.drop (k + 1)) = X := by
  rw [drop_some (cho_get hk), cbF, if_pos hb] at h; exact h
theorem cbF_no {l : List Cho} {b : Cho} {k : Nat} {X : Cho} (h : cbF b (l.drop k) = X) (hk : k < l.length) (hb : better (cho l k) b = false) : cbF b (l.drop (k + 1)) = X := by
  rw [drop_some (cho_get hk), cbF, if_neg (by simp [hb])] at h; exact h
theorem cbF_end {l : List Cho} {b : Cho} {k : Nat} {X : Cho} (h : cbF b (l.drop k) = X) (hk : l.length ≤ k) : X = b := by
  rw [List.drop_eq_nil_of_le hk] at h; exact h.symm
theorem cbest_one {l : List Cho} (h : 0 < l.length) : cbF (cho l 0) (l.drop 1) = cbest l := by
  unfold cbest
  have : l = cho l 0 :: l.drop 1 := by
    have := drop_some (cho_get h); simpa using this
  conv => rhs; rw [this]
  rw [cbF]
  have e : cho (cho l 0 :: List.drop 1 l) 0 = cho l 0 := rfl
  rw [e, better_self]; rfl
theorem mulC_bd {a b : Int} (h1 : 0 ≤ a) (h2 : a ≤ 2000000) (h3 : 1 ≤ b) (h4 : b ≤ 1000000) : 0 ≤ a * b ∧ a * b ≤ 2000000000000 := by
  constructor
  · exact Int.mul_nonneg h1 (by omega)
  · have := Int.mul_le_mul h2 h4 (by omega) (by omega); omega
def lookR (b : Boo) (p : Pos) : List Cho := if okB b = true ∧ okP b.rules p = true then lookE b.entries (viewP b.rules p).pits else []
def lookC (b : Boo) (p : Pos) : Int := if okB b = true ∧ okP b.rules p = true then (if (lookE b.entries (viewP b.rules p).pits).length = 0 then 3 else 0) else 1
theorem lookR_no {b : Boo} {p : Pos} (h : ¬ (okB b = true ∧ okP b.rules p = true)) : lookR b p = [] := by unfold lookR; rw [if_neg h]
theorem lookC_no {b : Boo} {p : Pos} (h : ¬ (okB b = true ∧ okP b.rules p = true)) : lookC b p = 1 := by unfold lookC; rw [if_neg h]
theorem lookR_yes {b : Boo} {p : Pos} (h : okB b = true ∧ okP b.rules p = true) : lookR b p = lookE b.entries (viewP b.rules p).pits := by unfold lookR; rw [if_pos h]
theorem lookC_0 {b : Boo} {p : Pos} (h : okB b = true ∧ okP b.rules p = true) (h0 : ¬ (lookE b.entries (viewP b.rules p).pits).length = 0) : lookC b p = 0 := by unfold lookC; rw [if_pos h, if_neg h0]
theorem lookC_3 {b : Boo} {p : Pos} (h : okB b = true ∧ okP b.rules p = true) (h0 : (lookE b.entries (viewP b.rules p).pits).length = 0) : lookC b p = 3 := by unfold lookC; rw [if_pos h, if_pos h0]
theorem lookC_ok {b : Boo} {p : Pos} (h : lookC b p = 0) : (okB b = true ∧ okP b.rules p = true) ∧ ¬ (lookE b.entries (viewP b.rules p).pits).length = 0 := by
  by_cases h1 : okB b = true ∧ okP b.rules p = true
  · refine ⟨h1, fun h0 => ?_⟩
    rw [lookC_3 h1 h0] at h; omega
  · rw [lookC_no h1] at h; omega
def chooseR (b : Boo) (p : Pos) : Int := if lookC b p = 0 then (cbest (lookE b.entries (viewP b.rules p).pits)).move else 0
theorem chooseR_0 {b : Boo} {p : Pos} (h : lookC b p = 0) : chooseR b p = (cbest (lookE b.entries (viewP b.rules p).pits)).move := by unfold chooseR; rw [if_pos h]
theorem chooseR_n {b : Boo} {p : Pos} (h : ¬ lookC b p = 0) : chooseR b p = 0 := by unfold chooseR; rw [if_neg h]
theorem has_len {b : Boo} {pits : List Int} (h : okB b = true) (hh : hasE b.entries pits = true) : 0 < (lookE b.entries pits).length := by
  rw [hasE_look hh]
  exact (okE_parts (okB_ent h (hasE_lt hh))).2.1
end Go.Proofs.YtcmfnlleikcpnaaGreat.M

namespace Go.Proofs.YtcmfnlleikcpnaaGreat.M
def okV (r : Rul) (p : Pos) : Prop := okP r p = true ∨ (p.player = 0 ∧ p.pits.length ≤ 4194304 ∧ p.stores.length ≤ 4194304)
theorem okV_len {r : Rul} {p : Pos} (h : okV r p) : p.pits.length ≤ 4194304 ∧ p.stores.length ≤ 4194304 := by
  rcases h with h | h
  · have := okP_bd h; omega
  · exact h.2
theorem okV_pl {r : Rul} {p : Pos} (h : okV r p) : 0 ≤ p.player ∧ p.player ≤ 1 := by
  rcases h with h | h
  · have := okP_bd h; omega
  · omega
theorem okV_turn {r : Rul} {p : Pos} (h : okV r p) (h0 : ¬ p.player = 0) : okP r p = true := by
  rcases h with h | h
  · exact h
  · exact absurd h.1 h0
theorem viewP_lenV {r : Rul} {p : Pos} (h : okV r p) : (viewP r p).pits.length ≤ 4194304 ∧ (viewP r p).stores.length ≤ 4194304 := by
  rcases h with h | h
  · exact viewP_len h
  · rw [viewP_0 h.1]; exact h.2
theorem okV_next (r : Rul) (p : Pos) (m : Int) : okV r (make r p m).1.next := by
  by_cases h : (make r p m).2 = 0
  · exact Or.inl (make_ok h).2.2.2.1
  · rw [make_zero h]; exact Or.inr ⟨rfl, by decide, by decide⟩
abbrev lkB (b : Boo) (q : Pos) : List Cho := lookE b.entries (viewP b.rules q).pits
def bookL (b : Boo) : Nat → Pos → List Int
  | 0, _ => []
  | n + 1, q => if (lkB b q).length = 0 then [] else (cbest (lkB b q)).move :: bookL b n (make b.rules q (cbest (lkB b q)).move).1.next
theorem bookL_len (b : Boo) : ∀ (n : Nat) (q : Pos), (bookL b n q).length ≤ n
  | 0, _ => by simp [bookL]
  | n + 1, q => by
    unfold bookL; split
    · simp
    · have := bookL_len b n (make b.rules q (cbest (lkB b q)).move).1.next
      rw [List.length_cons]; omega
theorem bookL_step {b : Boo} {q : Pos} {out X : List Int} {n : Nat} (h : out ++ bookL b (n - out.length) q = X) (hn : out.length < n) (h0 : ¬ (lkB b q).length = 0) :
    (out ++ [(cbest (lkB b q)).move]) ++ bookL b (n - (out ++ [(cbest (lkB b q)).move]).length) (make b.rules q (cbest (lkB b q)).move).1.next = X := by
  rw [← h, List.append_assoc]
  conv => rhs; rw [show n - out.length = (n - (out ++ [(cbest (lkB b q)).move]).length) + 1 by rw [List.length_append, List.length_singleton]; omega]
  rw [bookL, if_neg h0]; rfl
theorem bookL_stop {b : Boo} {q : Pos} {out X : List Int} {n : Nat} (h : out ++ bookL b (n - out.length) q = X) (h0 : (lkB b q).length = 0) : X = out := by
  rw [← h]
  cases n - out.length with
  | zero => simp [bookL]
  | succ k => rw [bookL, if_pos h0, List.append_nil]
theorem bookL_end {b : Boo} {q : Pos} {out X : List Int} {n : Nat} (h : out ++ bookL b (n - out.length) q = X) (h0 : n ≤ out.length) : X = out := by
  rw [← h, show n - out.length = 0 by omega, bookL, List.append_nil]
def blR (b : Boo) (p : Pos) (n : Int) : List Int := if okB b = true ∧ okP b.rules p = true then (if betw n 0 20 = true then bookL b n.toNat p else []) else []
def blC (b : Boo) (p : Pos) (n : Int) : Int := if okB b = true ∧ okP b.rules p = true then (if betw n 0 20 = true then 0 else 2) else 1
theorem bl_no {b : Boo} {p : Pos} {n : Int} (h : ¬ (okB b = true ∧ okP b.rules p = true)) : blR b p n = [] ∧ blC b p n = 1 := by unfold blR blC; rw [if_neg h, if_neg h]; exact ⟨rfl, rfl⟩
theorem bl_2 {b : Boo} {p : Pos} {n : Int} (h : okB b = true ∧ okP b.rules p = true) (h2 : betw n 0 20 = false) : blR b p n = [] ∧ blC b p n = 2 := by unfold blR blC; rw [if_pos h, if_pos h, h2]; exact ⟨rfl, rfl⟩
theorem bl_0 {b : Boo} {p : Pos} {n : Int} (h : okB b = true ∧ okP b.rules p = true) (h2 : betw n 0 20 = true) : blR b p n = bookL b n.toNat p ∧ blC b p n = 0 := by unfold blR blC; rw [if_pos h, if_pos h, h2]; exact ⟨rfl, rfl⟩
theorem blR_len (b : Boo) (p : Pos) (n : Int) : (blR b p n).length ≤ 20 := by
  unfold blR; split
  · split
    · rename_i h; have := bookL_len b n.toNat p; simp [betw] at h; omega
    · simp
  · simp
end Go.Proofs.YtcmfnlleikcpnaaGreat.M

namespace Go.Proofs.YtcmfnlleikcpnaaGreat
open Go.RowKit
def RX (w : World) (R : Value → Prop) (e : Ending) (w' : World) : Prop := ∃ v, e = .returned v ∧ R v ∧ Ext w w'
def RetX (P : Program) (f : FuncId) (args : List Value) (w : World) (R : Value → Prop) : Prop := Calls P f args.toArray w (RX w R)
section
variable {P : Program} {n lo : Nat} {B : List Nat} {Q : Exit → Act → World → Prop} {cs : List Code} {K : Act → World → Prop} {ops : Array Oper} {rest : List Oper} {l : Fr} {os os' os1 : List Own} {u : World} {ty : TypeId} {pos : String} {af : Array Edge} {gd : Option (Nat × Bool)} {dst : Option Tmp} {v : Value} {d : Nat}
theorem e_callX {f : FuncId} {xs : List Operand} {ts : Array TypeId} {vs : List Value} {R : World → Value → Prop} {R' : Value → Prop} (hf : goodF P f = true) (hx : opds l xs = some vs) (hc : ∀ w, St lo B u w os → RetX P f vs w (R w)) (hk : ∀ w v, St lo B u w os → R w v → R' v) :
    OpE P n lo B l os u ⟨dst, .call { callee := .value (.func f), args := xs.toArray, argTypes := ts }, ty, pos, af, gd⟩ true (fun v' os' u' => R' v' ∧ os' = os ∧ u = u') := fun a w ha hw K Q hq => by
  unfold Oper.wp
  rw [run_call hf ha hx, Oper.upon_enter]
  refine Calls.mono (hc w hw) fun e w' h => ?_
  obtain ⟨v, rfl, hR, hxt⟩ := h
  exact hq v _ u w' ⟨hk w v hw hR, rfl, rfl⟩ (Up.refl lo u) (hw.call hxt) (fun _ => hxt)
theorem zxc {f : FuncId} {xs : List Operand} {ts : Array TypeId} {vs : List Value} {R : World → Value → Prop} (R' : Value → Prop) [hf : FnI P f] (hx : opds l xs = some vs) (hc : ∀ w, St lo B u w os → RetX P f vs w (R w)) (hk : ∀ w v, St lo B u w os → R w v → R' v)
    (k : ∀ v, R' v → JL P n lo B K ops rest ((d, v) :: l) os u) (hn : Nat.blt d n = true := by rfl) :
    JL P n lo B K ops (⟨some d, .call { callee := .value (.func f), args := xs.toArray, argTypes := ts }, ty, pos, af, none⟩ :: rest) l os u := JL.e (e_callX hf.h hx hc hk) (by rintro v _ _ ⟨h, rfl, rfl⟩ _; exact k v h) rfl rfl hn
theorem zX {fn : Func} {R : Value → Prop} {w₀ : World} {rs : List ResultVar} {vs : List Value} (x : Up w₀.heap.size w₀ u) (h : R v) (hq : RetQ P fn (RX w₀ R) Q := by exact rq_) (hr : fn.results = rs.toArray := by rfl) (hv : ResOk P n w₀.heap.size [] l os u rs vs := by exact rs_) (ho : OutV vs v := by exact ov_) : Js P n w₀.heap.size [] Q (.ret :: cs) l os u :=
  Js.ret hr hq.eq hv fun w hw => by rw [ho.eq]; exact ⟨v, rfl, h, hw.ext x⟩
end
def EltAt (w : World) (sz : Nat) (A : Option Addr) (n c k : Nat) (vs : List Value) : Prop := ∃ b o, elemA sz (.slice A n c) k = some ⟨b, o, none⟩ ∧ RowAt w b o vs
theorem alias_ent {lo : Nat} {B : List Nat} {os : List Own} {u w : World} {e e' c k : Nat} {A : Option Addr} {es : List M.Ent} {x y : Value} (hw : St lo B u w os) (h : (Ty.sl e 2 es.length (lBookEntry es)).ok u (.slice A es.length c)) (hk : k < es.length) (hx : EltAt w 2 A es.length c k [y, x]) :
    ∃ A' c', x = .slice A' (M.ent es k).choices.length c' ∧ (Ty.sl e' 3 (M.ent es k).choices.length (lChoice (M.ent es k).choices)).ok u (.slice A' (M.ent es k).choices.length c') ∧ (M.ent es k).choices.length ≤ c' ∧ c' ≤ 9223372036854775807 := by
  obtain ⟨b, o, h1, h2⟩ := hx
  obtain ⟨b', o', A0, c0, A1, c1, h3, h4, h5, h6, _, _, h8, h9⟩ := elem_BookEntry h (M.ent_get hk)
  rw [h3] at h1
  injection h1 with h1
  injection h1 with h1 h10 _
  subst h1; subst h10
  have ha := (h4.vis hw.vis) 1 _ rfl
  have hb := h2 1 x rfl
  exact ⟨A1, c1, hb.uniq ha, h6, h8, h9⟩
end Go.Proofs.YtcmfnlleikcpnaaGreat

namespace Go.Proofs.YtcmfnlleikcpnaaGreat.M
theorem hasE_iff {es : List Ent} {pits : List Int} : hasE es pits = true ↔ findE es pits < es.length ∧ (ent es (findE es pits)).pits = pits := by
  unfold hasE
  simp only [Bool.and_eq_true, decide_eq_true_eq]
  constructor
  · rintro ⟨a, b⟩; exact ⟨a, cmpL_eq.1 b⟩
  · rintro ⟨a, b⟩; exact ⟨a, cmpL_eq.2 b⟩
def findC : List Cho → Int → Nat
  | [], _ => 0
  | c :: cs, mv => if mv ≤ c.move then 0 else 1 + findC cs mv
theorem findC_step {cs : List Cho} {mv : Int} {k : Nat} (h : k + findC (cs.drop k) mv = findC cs mv) (hk : k < cs.length) (hn : (cho cs k).move < mv) : k + 1 + findC (cs.drop (k + 1)) mv = findC cs mv := by
  rw [← h, List.drop_eq_getElem_cons hk, findC, if_neg (by simp [cho, List.getD, hk] at hn; omega)]; omega
theorem findC_hit {cs : List Cho} {mv : Int} {k : Nat} (h : k + findC (cs.drop k) mv = findC cs mv) (hk : k < cs.length) (hn : ¬ (cho cs k).move < mv) : findC cs mv = k := by
  rw [← h, List.drop_eq_getElem_cons hk, findC, if_pos (by simp [cho, List.getD, hk] at hn; omega)]; omega
theorem findC_end {cs : List Cho} {mv : Int} {k : Nat} (h : k + findC (cs.drop k) mv = findC cs mv) (hk : cs.length ≤ k) : findC cs mv = k := by
  rw [← h, List.drop_eq_nil_of_le hk, findC]; omega
def addC (cs : List Cho) (c : Cho) : List Cho :=
  if findC cs c.move < cs.length ∧ (cho cs (findC cs c.move)).move = c.move then cs.set (findC cs c.move) ⟨c.move, (cho cs (findC cs c.move)).games + c.games, (cho cs (findC cs c.move)).score + c.score⟩
  else cs.take (findC cs c.move) ++ [c] ++ cs.drop (findC cs c.move)
theorem addC_yes {cs : List Cho} {c : Cho} {k : Nat} (h : findC cs c.move = k) (hk : k < cs.length) (hm : (cho cs k).move = c.move) : addC cs c = cs.set k ⟨(cho cs k).move, (cho cs k).games + c.games, (cho cs k).score + c.score⟩ := by
  unfold addC; rw [h, if_pos ⟨hk, hm⟩, hm]
theorem addC_no {cs : List Cho} {c : Cho} {k : Nat} (h : findC cs c.move = k) (hn : ¬ (k < cs.length ∧ (cho cs k).move = c.move)) : addC cs c = cs.take k ++ [c] ++ cs.drop k := by
  unfold addC; rw [h, if_neg hn]
def addE (es : List Ent) (pits : List Int) (c : Cho) : List Ent :=
  if hasE es pits = true then es.set (findE es pits) ⟨pits, addC (ent es (findE es pits)).choices c⟩ else es.take (findE es pits) ++ [⟨pits, [c]⟩] ++ es.drop (findE es pits)
theorem ent_mid (es : List Ent) (x : Ent) {k : Nat} (hk : k ≤ es.length) : ent (es.take k ++ [x] ++ es.drop k) k = x := by
  have h : (es.take k ++ [x]).length = k + 1 := by simp; omega
  have h2 : (es.take k).length = k := by simp; omega
  simp [ent, List.getD, List.getElem?_append, h2]
theorem set_mid {α : Type} (xs : List α) (x y : α) {k : Nat} (hk : k ≤ xs.length) : (xs.take k ++ [x] ++ xs.drop k).set k y = xs.take k ++ [y] ++ xs.drop k := by
  have h2 : (xs.take k).length = k := by simp; omega
  rw [List.append_assoc, List.set_append_right _ _ (by omega), h2, Nat.sub_self, List.append_assoc]; rfl
def atE (es : List Ent) (pits : List Int) : List Ent := if hasE es pits = true then es else es.take (findE es pits) ++ [⟨pits, []⟩] ++ es.drop (findE es pits)
theorem addC_nil (c : Cho) : addC [] c = [c] := by simp [addC, findC]
theorem addE_at {es ES : List Ent} {pits : List Int} {c : Cho} {k : Nat} (h : findE es pits = k) (hE : ES = atE es pits) : ES.set k ⟨(ent ES k).pits, addC (ent ES k).choices c⟩ = addE es pits c := by
  subst h; subst hE
  unfold atE addE
  by_cases hh : hasE es pits = true
  · rw [if_pos hh, if_pos hh, (hasE_iff.1 hh).2]
  · rw [if_neg hh, if_neg hh, ent_mid _ _ (findE_le es pits), set_mid _ _ _ (findE_le es pits), addC_nil]
theorem atE_yes {es : List Ent} {pits : List Int} (h : hasE es pits = true) : es = atE es pits := by unfold atE; rw [if_pos h]
theorem atE_no {es : List Ent} {pits : List Int} {k : Nat} (hk : findE es pits = k) (h : ¬ hasE es pits = true) : es.take k ++ [⟨pits, []⟩] ++ es.drop k = atE es pits := by unfold atE; rw [if_neg h, hk]
theorem bump_yes {cs : List Cho} {c : Cho} {j : Nat} (hj : j < cs.length) (h : addC cs c = cs.set j ⟨(cho cs j).move, (cho cs j).games + c.games, (cho cs j).score + c.score⟩) :
    (cs.set j ⟨(cho cs j).move, (cho cs j).games + c.games, (cho cs j).score⟩).set j ⟨(cho (cs.set j ⟨(cho cs j).move, (cho cs j).games + c.games, (cho cs j).score⟩) j).move, (cho (cs.set j ⟨(cho cs j).move, (cho cs j).games + c.games, (cho cs j).score⟩) j).games, (cho (cs.set j ⟨(cho cs j).move, (cho cs j).games + c.games, (cho cs j).score⟩) j).score + c.score⟩ = addC cs c := by
  rw [cho_set hj, List.set_set, h]
def EB (n : Int) (es : List Ent) : Prop := ∀ x ∈ es, ∀ y ∈ x.choices, 0 ≤ y.games ∧ y.games ≤ n ∧ 0 ≤ y.score ∧ y.score ≤ n
theorem EB.mono {m n : Int} {es : List Ent} (h : EB m es) (hm : m ≤ n) : EB n es := fun x hx y hy => by have := h x hx y hy; omega
theorem EB.at_ {n : Int} {es : List Ent} {pits : List Int} (h : EB n es) : EB n (atE es pits) := fun x hx y hy => by
  unfold atE at hx
  split at hx
  · exact h x hx y hy
  · simp only [List.append_assoc, List.mem_append, List.mem_singleton] at hx
    rcases hx with hx | rfl | hx
    · exact h x (List.mem_of_mem_take hx) y hy
    · simp at hy
    · exact h x (List.mem_of_mem_drop hx) y hy
theorem addC_mem {cs : List Cho} {c y : Cho} (hy : y ∈ addC cs c) : y ∈ cs ∨ y = c ∨ ∃ x ∈ cs, y = ⟨c.move, x.games + c.games, x.score + c.score⟩ := by
  unfold addC at hy
  split at hy
  · rename_i h
    rcases List.mem_or_eq_of_mem_set hy with h2 | h2
    · exact .inl h2
    · exact .inr (.inr ⟨_, cho_mem h.1, h2⟩)
  · simp only [List.append_assoc, List.mem_append, List.mem_singleton] at hy
    rcases hy with hy | hy | hy
    · exact .inl (List.mem_of_mem_take hy)
    · exact .inr (.inl hy)
    · exact .inl (List.mem_of_mem_drop hy)
theorem addC_len (cs : List Cho) (c : Cho) : (addC cs c).length ≤ cs.length + 1 := by
  unfold addC; split
  · rw [List.length_set]; omega
  · simp; omega
theorem addE_mem {es : List Ent} {pits : List Int} {c : Cho} {x : Ent} (hx : x ∈ addE es pits c) : x ∈ es ∨ x = ⟨pits, [c]⟩ ∨ ∃ y ∈ es, x = ⟨pits, addC y.choices c⟩ := by
  unfold addE at hx
  split at hx
  · rename_i h
    rcases List.mem_or_eq_of_mem_set hx with h2 | h2
    · exact .inl h2
    · exact .inr (.inr ⟨_, ent_mem (hasE_iff.1 h).1, h2⟩)
  · simp only [List.append_assoc, List.mem_append, List.mem_singleton] at hx
    rcases hx with hx | hx | hx
    · exact .inl (List.mem_of_mem_take hx)
    · exact .inr (.inl hx)
    · exact .inl (List.mem_of_mem_drop hx)
theorem EB.add {m n : Int} {es : List Ent} {pits : List Int} {c : Cho} (h : EB n es) (h0 : 0 ≤ c.games) (h1 : c.games ≤ m) (h2 : 0 ≤ c.score) (h3 : c.score ≤ m) (hn : 0 ≤ n) : EB (n + m) (addE es pits c) := fun x hx y hy => by
  rcases addE_mem hx with hx | rfl | ⟨z, hz, rfl⟩
  · have := h x hx y hy; omega
  · simp at hy; subst hy; omega
  · rcases addC_mem hy with hy | rfl | ⟨w, hw, rfl⟩
    · have := h z hz y hy; omega
    · omega
    · have := h z hz w hw; simp only; omega
theorem takeE {es : List Ent} {k : Nat} (hk : k < es.length) : es.take (k + 1) = es.take k ++ [⟨(ent es k).pits, (ent es k).choices⟩] := by rw [List.take_add_one, ent_get hk]; rfl
def SzE (n : Nat) (es : List Ent) : Prop := ∀ x ∈ es, x.pits.length ≤ n ∧ x.choices.length ≤ n
theorem SzE.mono {m n : Nat} {es : List Ent} (h : SzE m es) (hm : m ≤ n) : SzE n es := fun x hx => by have := h x hx; omega
theorem SzE.at_ {n : Nat} {es : List Ent} {pits : List Int} (h : SzE n es) (hp : pits.length ≤ n) : SzE n (atE es pits) := fun x hx => by
  unfold atE at hx
  split at hx
  · exact h x hx
  · simp only [List.append_assoc, List.mem_append, List.mem_singleton] at hx
    rcases hx with hx | rfl | hx
    · exact h x (List.mem_of_mem_take hx)
    · exact ⟨hp, by simp⟩
    · exact h x (List.mem_of_mem_drop hx)
theorem SzE.add {n : Nat} {es : List Ent} {pits : List Int} {c : Cho} (h : SzE n es) (hp : pits.length ≤ n + 1) : SzE (n + 1) (addE es pits c) := fun x hx => by
  rcases addE_mem hx with hx | rfl | ⟨z, hz, rfl⟩
  · have := h x hx; omega
  · exact ⟨hp, by simp⟩
  · exact ⟨hp, by have := addC_len z.choices c; have := h z hz; simp only; omega⟩
theorem addE_len (es : List Ent) (pits : List Int) (c : Cho) : (addE es pits c).length ≤ es.length + 1 := by
  unfold addE; split
  · rw [List.length_set]; omega
  · simp; omega
end Go.Proofs.YtcmfnlleikcpnaaGreat.M

namespace Go.Proofs.YtcmfnlleikcpnaaGreat.M
structure MI (n : Nat) (es : List Ent) : Prop where
  len : es.length ≤ 1048576 + n
  sz : SzE (1048576 + n) es
  eb : EB (2000000 * (n + 1)) es
theorem MI.step {n : Nat} {es : List Ent} {pits : List Int} {c : Cho} (h : MI n es) (hp : pits.length ≤ 1048576) (h0 : 0 ≤ c.games) (h1 : c.games ≤ 2000000) (h2 : 0 ≤ c.score) (h3 : c.score ≤ 2000000) : MI (n + 1) (addE es pits c) := by
  refine ⟨?_, h.sz.add (by omega), ?_⟩
  · have := addE_len es pits c; have := h.len; omega
  · have := EB.add (pits := pits) h.eb h0 h1 h2 h3 (by omega)
    refine this.mono ?_
    push_cast
    omega
theorem MI.req {n : Nat} {es : List Ent} (h : MI n es) (hn : n ≤ 1048576) : es.length ≤ 4194303 ∧ SzE 4194304 es ∧ EB 1000000000000000 es :=
  ⟨by have := h.len; omega, h.sz.mono (by omega), h.eb.mono (by omega)⟩
end Go.Proofs.YtcmfnlleikcpnaaGreat.M

namespace Go.Proofs.YtcmfnlleikcpnaaGreat
open Go.RowKit
section
variable {P : Program} {n lo : Nat} {B : List Nat} {Q : Exit → Act → World → Prop} {cs : List Code} {K : Act → World → Prop} {ops : Array Oper} {rest : List Oper} {l : Fr} {os os' os1 : List Own} {u : World} {ty : TypeId} {pos : String} {af : Array Edge} {gd : Option (Nat × Bool)} {dst : Option Tmp} {v : Value} {d : Nat}
theorem src_pre {tx e' e sz i m c b mx : Nat} {A : Option Addr} {vs : List Value} {g : List Nat} (hk : P.underlying tx = some (.slice e')) (hi : os[i]? = some (rowO e sz (.slice A m c) m vs g)) (h1 : ∀ w, St lo B u w os → vs.all (·.oneCell') = true) (hb : b ≤ m) (hc : b ≤ mx) (hsz : 0 < sz := by decide) :
    ∀ w, St lo B u w os → Src P sz tx (.slice (cutA sz A 0 mx) (b - 0) (mx - 0)) (b - 0) (vs.take (b * sz)) w := fun w hw => by
  have h := src_cut (a := 0) (mx := mx) hk hi (h1 w hw) (Nat.zero_le b) hb hc hsz w hw
  rw [Nat.zero_mul, List.drop_zero, Nat.sub_zero] at h
  exact h
theorem src_suf {tx e' e sz i m c a mx : Nat} {A : Option Addr} {vs : List Value} {g : List Nat} (hk : P.underlying tx = some (.slice e')) (hi : os[i]? = some (rowO e sz (.slice A m c) m vs g)) (h1 : ∀ w, St lo B u w os → vs.all (·.oneCell') = true) (ha : a ≤ m) (hc : m ≤ mx) (hsz : 0 < sz := by decide) :
    ∀ w, St lo B u w os → Src P sz tx (.slice (cutA sz A a mx) (m - a) (mx - a)) (m - a) (vs.drop (a * sz)) w := fun w hw => by
  have h := src_cut (mx := mx) hk hi (h1 w hw) ha (Nat.le_refl m) hc hsz w hw
  have hl := row_len hi w hw
  rw [List.take_of_length_le (by rw [List.length_drop, hl, Nat.sub_mul]; exact Nat.le_refl _)] at h
  exact h
theorem St.insL {α : Type} (F : α → List Ty) {w : World} {i j m k : Nat} {xs : List α} {x : α} {vs c : List Value} {f g : List Nat} (hF : ∀ a, (F a).length = m) (hi : os[i]? = some (ownC (xs.flatMap F) vs f)) (hj : (os.eraseIdx i)[j]? = some (ownC (F x) c g)) (hk : k ≤ xs.length)
    (hw : St lo B u w os) : ∃ f', St lo B u w (ownC ((xs.take k ++ [x] ++ xs.drop k).flatMap F) (vs.take (k * m) ++ (c ++ vs.drop (k * m))) f' :: (os.eraseIdx i).eraseIdx j) := by
  have h1 := hw.front hi
  have h2 : St lo B u w (ownC (F x) c g :: ownC (xs.flatMap F) vs f :: (os.eraseIdx i).eraseIdx j) := by
    have h3 := h1.front (i := j + 1) (o := ownC (F x) c g) (by simpa using hj)
    simpa using h3
  have hl : vs.length = (xs.flatMap F).length := cellsOwn.length (w := w) (fp := f) (h1.prs (ownC (xs.flatMap F) vs f) (List.mem_cons_self ..))
  have l0 : (xs.flatMap F).length = xs.length * m := flat_len' F m hF xs
  have l1 : ((xs.take k).flatMap F).length = k * m := by rw [flat_len' F m hF, List.length_take, Nat.min_eq_left hk]
  have lk : k * m ≤ xs.length * m := Nat.mul_le_mul_right m hk
  have e1 : xs.flatMap F = (xs.take k).flatMap F ++ (xs.drop k).flatMap F := by rw [← List.flatMap_append, List.take_append_drop]
  have e2 : vs = vs.take (k * m) ++ vs.drop (k * m) := (List.take_append_drop _ _).symm
  have h4 : St lo B u w (ownC (xs.flatMap F) vs f :: ownC (F x) c g :: (os.eraseIdx i).eraseIdx j) := by
    have h3 := h2.front (i := 1) (o := ownC (xs.flatMap F) vs f) rfl
    simpa using h3
  rw [e1, e2] at h4
  obtain ⟨f1, f2, h5⟩ := h4.part (by rw [l1, List.length_take]; omega)
  have h6 := h5.front (i := 2) (o := ownC (F x) c g) rfl
  have h7 : St lo B u w (ownC (F x) c g :: ownC ((xs.take k).flatMap F) (vs.take (k * m)) f1 :: ownC ((xs.drop k).flatMap F) (vs.drop (k * m)) f2 :: (os.eraseIdx i).eraseIdx j) := by simpa using h6
  have h8 := h7.front (i := 1) (o := ownC ((xs.take k).flatMap F) (vs.take (k * m)) f1) rfl
  have h9 : St lo B u w (ownC ((xs.take k).flatMap F) (vs.take (k * m)) f1 :: ownC (F x) c g :: ownC ((xs.drop k).flatMap F) (vs.drop (k * m)) f2 :: (os.eraseIdx i).eraseIdx j) := by simpa using h8
  have h10 := h9.join.join
  have e3 : (xs.take k ++ [x] ++ xs.drop k).flatMap F = (xs.take k).flatMap F ++ F x ++ (xs.drop k).flatMap F := by simp
  have e4 : vs.take (k * m) ++ (c ++ vs.drop (k * m)) = vs.take (k * m) ++ c ++ vs.drop (k * m) := by rw [List.append_assoc]
  rw [e3, e4]
  exact ⟨_, h10⟩
theorem Js.insL {α : Type} (F : α → List Ty) {i j m k : Nat} {xs : List α} {x : α} {vs c vs' : List Value} {f g : List Nat} (hF : ∀ a, (F a).length = m) (hi : os[i]? = some (ownC (xs.flatMap F) vs f)) (hj : (os.eraseIdx i)[j]? = some (ownC (F x) c g)) (hk : k ≤ xs.length) (hv : vs.take (k * m) ++ (c ++ vs.drop (k * m)) = vs')
    (kk : ∀ f', Js P n lo B Q cs l (ownC ((xs.take k ++ [x] ++ xs.drop k).flatMap F) vs' f' :: (os.eraseIdx i).eraseIdx j) u) : Js P n lo B Q cs l os u := fun a w ha hw => by
  subst hv
  obtain ⟨f', h⟩ := hw.insL F hF hi hj hk
  exact kk f' a w ha h
end
theorem elemOk {α : Type} (F : α → List Ty) {w : World} {m k : Nat} {xs : List α} {y : α} {vs c : List Value} (hF : ∀ a, (F a).length = m) (h : cellsOk w (xs.flatMap F) vs) (hy : xs[k]? = some y) (hc : (vs.drop (0 + k * m)).take m = c) : cellsOk w (F y) c := by
  have h2 := cellsOk.take m (cellsOk.drop (k * m) h)
  rw [drop_flat F m hF xs k y hy] at h2
  rw [← hc, Nat.zero_add]; exact h2
def OneL (F : List Ty) : Prop := ∀ w vs f, cellsOwn w F vs f → vs.all (·.oneCell') = true
theorem OneL.flat {α : Type} {F : α → List Ty} (h : ∀ x, OneL (F x)) : ∀ xs : List α, OneL (xs.flatMap F)
  | [] => fun w vs f hc => by cases vs with | nil => rfl | cons v r => exact absurd hc (by simp [cellsOwn])
  | x :: xs => fun w vs f hc => by
    have hl := cellsOwn.length hc
    rw [List.flatMap_cons, List.length_append] at hl
    have key : ∀ (Ts Us : List Ty) (vs : List Value) (f : List Nat), cellsOwn w (Ts ++ Us) vs f → ∃ v1 v2 f1 f2, vs = v1 ++ v2 ∧ cellsOwn w Ts v1 f1 ∧ cellsOwn w Us v2 f2 := by
      intro Ts Us
      induction Ts with
      | nil => intro vs f h; exact ⟨[], vs, [], f, rfl, rfl, h⟩
      | cons T r ih => intro vs f h; cases vs with
        | nil => exact absurd h (by simp [cellsOwn])
        | cons v vr =>
          obtain ⟨f1, f2, rfl, h1, h2⟩ := h
          obtain ⟨v1, v2, g1, g2, rfl, h3, h4⟩ := ih vr f2 h2
          exact ⟨v :: v1, v2, f1 ++ g1, g2, rfl, ⟨f1, g1, rfl, h1, h3⟩, h4⟩
    rw [List.flatMap_cons] at hc
    obtain ⟨v1, v2, f1, f2, rfl, h1, h2⟩ := key _ _ _ _ hc
    rw [List.all_append, h x w v1 f1 h1, OneL.flat h xs w v2 f2 h2]; rfl
theorem ownOne {lo : Nat} {B : List Nat} {os : List Own} {u : World} {i : Nat} {Ts : List Ty} {vs : List Value} {f : List Nat} (hi : os[i]? = some (ownC Ts vs f)) (h : OneL Ts) : ∀ w, St lo B u w os → vs.all (·.oneCell') = true :=
  fun w hw => h w vs f (hw.prs _ (List.mem_of_getElem? hi))
theorem one_sl {w : World} {e sz n : Nat} {Ts : List Ty} {v : Value} {f : List Nat} (h : (Ty.sl e sz n Ts).own w v f) : v.oneCell' = true := by
  obtain ⟨_, vs, f', h1, _, _⟩ := h
  rcases h1.2 with ⟨rfl, _⟩ | ⟨g, cap, cur, rfl, _⟩ <;> rfl
theorem OneL.nil : OneL [] := fun w vs f h => by cases vs with | nil => rfl | cons v r => exact absurd h (by simp [cellsOwn])
theorem OneL.consSl {e sz n : Nat} {Ts r : List Ty} (h : OneL r) : OneL (Ty.sl e sz n Ts :: r) := fun w vs f hc => by
  cases vs with
  | nil => exact absurd hc (by simp [cellsOwn])
  | cons v vr =>
    obtain ⟨f1, f2, _, h1, h2⟩ := hc
    rw [List.all_cons, one_sl h1, h w vr f2 h2]; rfl
theorem fltV_split {α : Type} {F : List α → List Ty} {C : α → List Value} {sz : Nat} [hf : FltL F C sz] (xs : List α) (k : Nat) : (fltV C xs).take (k * sz) = fltV C (xs.take k) ∧ (fltV C xs).drop (k * sz) = fltV C (xs.drop k) := by
  by_cases hk : k ≤ xs.length
  · have e : fltV C xs = fltV C (xs.take k) ++ fltV C (xs.drop k) := by rw [fltV_app, List.take_append_drop]
    have hl : (fltV C (xs.take k)).length = k * sz := by rw [fltV_len hf.lenC, List.length_take, Nat.min_eq_left hk]
    rw [e]
    exact ⟨by rw [← hl, List.take_left], by rw [← hl, List.drop_left]⟩
  · have hl : (fltV C xs).length ≤ k * sz := by rw [fltV_len hf.lenC]; exact Nat.mul_le_mul_right sz (by omega)
    rw [List.take_of_length_le hl, List.drop_eq_nil_of_le hl, List.take_of_length_le (by omega), List.drop_eq_nil_of_le (by omega)]
    exact ⟨rfl, rfl⟩
section
variable {P : Program} {n lo : Nat} {B : List Nat} {Q : Exit → Act → World → Prop} {cs : List Code} {l : Fr} {os os' : List Own} {u : World}
theorem giveL (ks : List Nat) {w w₀ : World} {bs : List Own} {fr : List Own} {m : Nat} (hb : Bw w₀ bs) (x : Up w₀.heap.size (offW w₀ (bs.flatMap (·.fp))) u) (hp : PP os ks os') (hf : NL (os'.take m) fr)
    (hw : St w₀.heap.size (bs.flatMap (·.fp)) u w os) : St w₀.heap.size (bs.flatMap (·.fp)) u w (fr ++ [anyO ((os'.drop m).flatMap (·.fp))]) := by
  have hpm := hp.perm
  have e : os' = fr ++ os'.drop m := by rw [← hf.eq, List.take_append_drop]
  exact hw.conv (fun o ho => by
    rcases List.mem_append.1 ho with ho | ho
    · exact hw.prs o (hpm.mem_iff.2 (by rw [e]; exact List.mem_append_left _ ho))
    · simp at ho; subst ho; trivial) (by
    have := hpm.symm.flatMap_right (fun o : Own => o.fp)
    rw [e, List.flatMap_append] at this
    rw [List.flatMap_append]
    simpa [anyO] using this)
theorem zrbE (ks : List Nat) {fn : Func} {R : Value → List Own → Prop} {w₀ : World} {bs : List Own} {fr : List Own} {m : Nat} (hb : Bw w₀ bs) (x : Up w₀.heap.size (offW w₀ (bs.flatMap (·.fp))) u) (h : R (.tuple #[]) fr)
    (hr : fn.results = #[] := by rfl) (hm : ks.length = m := by rfl) (hp : PP os ks os' := by exact pp_) (hf : NL (os'.take m) fr := by exact nl) :
    Js P n w₀.heap.size (bs.flatMap (·.fp)) (bodyPost P fn (RB w₀ bs R)) [] l os u := Js.end_ fun a w ha hw =>
  ⟨ha.dfr, .tuple #[], by unfold results; rw [hr]; simp, _, fr, _, rfl, h, (giveL ks hb x hp hf hw).giveBack hb x⟩
theorem zrb0 (ks : List Nat) {fn : Func} {R : Value → List Own → Prop} {w₀ : World} {bs : List Own} {fr : List Own} {m : Nat} (hb : Bw w₀ bs) (x : Up w₀.heap.size (offW w₀ (bs.flatMap (·.fp))) u) (h : R (.tuple #[]) fr)
    (hq : RetQ P fn (RB w₀ bs R) Q := by exact rq_) (hr : fn.results = #[] := by rfl) (hm : ks.length = m := by rfl) (hp : PP os ks os' := by exact pp_) (hf : NL (os'.take m) fr := by exact nl) :
    Js P n w₀.heap.size (bs.flatMap (·.fp)) Q (.ret :: cs) l os u := Js.ret_ fun a w ha hw => by
  rw [hq.eq]
  exact ⟨ha.dfr, .tuple #[], by unfold results; rw [hr]; simp, _, fr, _, rfl, h, (giveL ks hb x hp hf hw).giveBack hb x⟩
end
end Go.Proofs.YtcmfnlleikcpnaaGreat

namespace Go.Proofs.YtcmfnlleikcpnaaGreat.M
end Go.Proofs.YtcmfnlleikcpnaaGreat.M

namespace Go.Proofs.YtcmfnlleikcpnaaGreat
open Go.RowKit
theorem strs_cellsok {w : World} : ∀ l : List (List UInt8), cellsOk w (l.map Ty.str) (txs_ l)
  | [] => trivial
  | x :: l => ⟨rfl, strs_cellsok l⟩
theorem strs_rowok {w : World} {e : TypeId} {n : Nat} {v : Value} {xs : List (List UInt8)} {g : List Nat} (h : (rowO e 1 v n (txs_ xs) g).pr w) : (Ty.strs e xs).ok w v := by
  have hl : n = xs.length := by have := h.1; rw [List.length_map] at this; omega
  subst hl
  exact row_ok h (strs_cellsok xs)
def Ty.lax (T : Ty) : Ty :=
  ⟨T.ok, fun w v fp => ∀ w', (∀ k, k ∈ fp → w'.heap[k]? = w.heap[k]?) → T.ok w' v,
   T.mono, fun {w w' v fp} h k w2 k2 => h w2 (fun j hj => (k2 j hj).trans (k j hj)), fun {w v fp} h => h w (fun _ _ => rfl)⟩
instance {T : Ty} {E : World → (Value → Prop) → Prop} [h : Opn T E] : Opn (Ty.lax T) E := ⟨fun u K k v hv => h.h u K k v hv⟩
instance {T : Ty} {E : (Value → Prop) → Prop} [h : Frm T E] : Frm (Ty.lax T) E := ⟨fun K k w v hv => h.h K k w v hv⟩
theorem Js.fold {P : Program} {n lo : Nat} {B : List Nat} {Q : Exit → Act → World → Prop} {cs : List Code} {l : Fr} {u : World} {os : List Own} {Vs : List Ty} {vs : List Value} {f : List Nat} (Us : List Ty) (e : Us = Vs) (k : Js P n lo B Q cs l (ownC Us vs f :: os) u) : Js P n lo B Q cs l (ownC Vs vs f :: os) u := by subst e; exact k
section
variable {os os' : List Own} {v v0 : Value} {T T0 : Ty}
theorem gv_laxof (g : Gv os T0 v0 os') (h : ∀ w, T0.ok w v0 → T.ok w v) : Gv os (Ty.lax T) v os' := fun w hp => by
  obtain ⟨fp, r, h1, h2, h3⟩ := g w hp
  exact ⟨fp, r, fun w' k => h w' (T0.ownok (T0.loc h1 k)), h2, h3⟩
theorem gv_lax (g : Gv os T v os' := by exact gv_) : Gv os (Ty.lax T) v os' := gv_laxof g (fun _ h => h)
end
theorem lBookEntry_drop {u : World} {e c k : Nat} {A : Option Addr} {xs : List M.Ent} (h : (Ty.sl e 2 xs.length (lBookEntry xs)).ok u (.slice A xs.length c)) (hk : k ≤ xs.length) (hc : xs.length ≤ c) :
    (Ty.sl e 2 (xs.drop k).length (lBookEntry (xs.drop k))).ok u (.slice (cutA 2 A k c) (xs.length - k) (c - k)) := by
  have e1 : (xs.drop k).take (xs.length - k) = xs.drop k := List.take_of_length_le (by rw [List.length_drop]; omega)
  have h2 := lBookEntry_cut (a := k) (b := xs.length) (m := c) h hk (Nat.le_refl _) hc (Nat.le_refl _) (by rw [e1, List.length_drop])
  rw [e1] at h2
  rw [List.length_drop] at h2 ⊢
  exact h2
end Go.Proofs.YtcmfnlleikcpnaaGreat


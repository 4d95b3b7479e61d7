/- The table of types of the program, and what the types of the model are. -/
import Derived.Test.YtcmfnlleikcpnaaGreatZxA2
import Derived.Test.YtcmfnlleikcpnaaGreatProg
import Derived.ProofKit
import Derived.SizedLaws
import Derived.Test.YtcmfnlleikcpnaaGreatZxA1
set_option linter.unusedSimpArgs false
set_option linter.unusedVariables false
namespace Go.Proofs.YtcmfnlleikcpnaaGreat
open Go.RowKit
theorem cellsOk_cons {w : World} {T : Ty} {Ts : List Ty} : ∀ {vs : List Value}, cellsOk w (T :: Ts) vs → ∃ x r, vs = x :: r ∧ T.ok w x ∧ cellsOk w Ts r
  | x :: r, h => ⟨x, r, rfl, h.1, h.2⟩
theorem cellsOk_nil {w : World} : ∀ {vs : List Value}, cellsOk w [] vs → vs = []
  | [], _ => rfl
theorem cellsOwn_cons {w : World} {T : Ty} {Ts : List Ty} {fp : List Nat} : ∀ {vs : List Value}, cellsOwn w (T :: Ts) vs fp → ∃ x r f1 f2, vs = x :: r ∧ fp = f1 ++ f2 ∧ T.own w x f1 ∧ cellsOwn w Ts r f2
  | x :: r, ⟨f1, f2, e, a, b⟩ => ⟨x, r, f1, f2, rfl, e, a, b⟩
theorem cellsOwn_nil {w : World} {fp : List Nat} : ∀ {vs : List Value}, cellsOwn w [] vs fp → vs = [] ∧ fp = []
  | [], h => ⟨rfl, h⟩
theorem drop_flat {α β : Type} (f : α → List β) (k : Nat) (hf : ∀ a, (f a).length = k) : ∀ (l : List α) (i : Nat) (a : α), l[i]? = some a → ((l.flatMap f).drop (i * k)).take k = f a
  | x :: l, 0, a, h => by
    simp at h; subst h
    simp [List.flatMap_cons, hf, List.take_append]
  | x :: l, i + 1, a, h => by
    simp at h
    rw [List.flatMap_cons, Nat.succ_mul, Nat.add_comm, ← List.drop_drop, List.drop_left' (hf x)]
    exact drop_flat f k hf l i a h
  | [], _, _, h => by simp at h
theorem flat_len {α β : Type} (f : α → List β) (k : Nat) (hf : ∀ a, (f a).length = k) : ∀ (l : List α), (l.flatMap f).length = l.length * k
  | [] => by simp
  | x :: l => by rw [List.flatMap_cons, List.length_append, hf, flat_len f k hf l, List.length_cons, Nat.succ_mul, Nat.add_comm]
instance ty_2 : TyI Tryz.prog 2 false 1 := ⟨by kernel_rfl⟩
instance ty_3 : TyI Tryz.prog 3 false 1 := ⟨by kernel_rfl⟩
instance ty_4 : TyI Tryz.prog 4 false 1 := ⟨by kernel_rfl⟩
instance ty_5 : TyI Tryz.prog 5 false 1 := ⟨by kernel_rfl⟩
instance ty_9 : TyI Tryz.prog 9 false 1 := ⟨by kernel_rfl⟩
instance ty_27 : TyI Tryz.prog 27 false 1 := ⟨by kernel_rfl⟩
instance ty_34 : TyI Tryz.prog 34 true 9 := ⟨by kernel_rfl⟩
instance ty_35 : TyI Tryz.prog 35 false 1 := ⟨by kernel_rfl⟩
instance ty_37 : TyI Tryz.prog 37 true 10 := ⟨by kernel_rfl⟩
instance ty_39 : TyI Tryz.prog 39 true 3 := ⟨by kernel_rfl⟩
instance ty_56 : TyI Tryz.prog 56 true 17 := ⟨by kernel_rfl⟩
instance ty_61 : TyI Tryz.prog 61 false 1 := ⟨by kernel_rfl⟩
instance ty_67 : TyI Tryz.prog 67 false 1 := ⟨by kernel_rfl⟩
instance ty_81 : TyI Tryz.prog 81 true 3 := ⟨by kernel_rfl⟩
instance ty_89 : TyI Tryz.prog 89 true 2 := ⟨by kernel_rfl⟩
instance ty_101 : TyI Tryz.prog 101 true 6 := ⟨by kernel_rfl⟩
instance ty_162 : TyI Tryz.prog 162 true 4 := ⟨by kernel_rfl⟩
instance ty_187 : TyI Tryz.prog 187 false 1 := ⟨by kernel_rfl⟩
instance ty_189 : TyI Tryz.prog 189 true 3 := ⟨by kernel_rfl⟩
instance ty_216 : TyI Tryz.prog 216 true 15 := ⟨by kernel_rfl⟩
instance fld_34_0 : FldI Tryz.prog 34 0 0 2 false 1 := ⟨by kernel_rfl⟩
instance fld_34_1 : FldI Tryz.prog 34 1 1 2 false 1 := ⟨by kernel_rfl⟩
instance fld_34_2 : FldI Tryz.prog 34 2 2 4 false 1 := ⟨by kernel_rfl⟩
instance fld_34_3 : FldI Tryz.prog 34 3 3 4 false 1 := ⟨by kernel_rfl⟩
instance fld_34_4 : FldI Tryz.prog 34 4 4 4 false 1 := ⟨by kernel_rfl⟩
instance fld_34_5 : FldI Tryz.prog 34 5 5 4 false 1 := ⟨by kernel_rfl⟩
instance fld_34_6 : FldI Tryz.prog 34 6 6 4 false 1 := ⟨by kernel_rfl⟩
instance fld_34_7 : FldI Tryz.prog 34 7 7 2 false 1 := ⟨by kernel_rfl⟩
instance fld_34_8 : FldI Tryz.prog 34 8 8 2 false 1 := ⟨by kernel_rfl⟩
instance fld_37_0 : FldI Tryz.prog 37 0 0 34 true 9 := ⟨by kernel_rfl⟩
instance fld_37_1 : FldI Tryz.prog 37 1 9 35 false 1 := ⟨by kernel_rfl⟩
instance fld_39_0 : FldI Tryz.prog 39 0 0 27 false 1 := ⟨by kernel_rfl⟩
instance fld_39_1 : FldI Tryz.prog 39 1 1 27 false 1 := ⟨by kernel_rfl⟩
instance fld_39_2 : FldI Tryz.prog 39 2 2 2 false 1 := ⟨by kernel_rfl⟩
instance fld_56_0 : FldI Tryz.prog 56 0 0 34 true 9 := ⟨by kernel_rfl⟩
instance fld_56_1 : FldI Tryz.prog 56 1 9 39 true 3 := ⟨by kernel_rfl⟩
instance fld_56_2 : FldI Tryz.prog 56 2 12 27 false 1 := ⟨by kernel_rfl⟩
instance fld_56_3 : FldI Tryz.prog 56 3 13 39 true 3 := ⟨by kernel_rfl⟩
instance fld_56_4 : FldI Tryz.prog 56 4 16 2 false 1 := ⟨by kernel_rfl⟩
instance fld_81_0 : FldI Tryz.prog 81 0 0 2 false 1 := ⟨by kernel_rfl⟩
instance fld_81_1 : FldI Tryz.prog 81 1 1 2 false 1 := ⟨by kernel_rfl⟩
instance fld_81_2 : FldI Tryz.prog 81 2 2 2 false 1 := ⟨by kernel_rfl⟩
instance fld_89_0 : FldI Tryz.prog 89 0 0 27 false 1 := ⟨by kernel_rfl⟩
instance fld_89_1 : FldI Tryz.prog 89 1 1 67 false 1 := ⟨by kernel_rfl⟩
instance fld_101_0 : FldI Tryz.prog 101 0 0 2 false 1 := ⟨by kernel_rfl⟩
instance fld_101_1 : FldI Tryz.prog 101 1 1 2 false 1 := ⟨by kernel_rfl⟩
instance fld_101_2 : FldI Tryz.prog 101 2 2 4 false 1 := ⟨by kernel_rfl⟩
instance fld_101_3 : FldI Tryz.prog 101 3 3 39 true 3 := ⟨by kernel_rfl⟩
instance fld_162_0 : FldI Tryz.prog 162 0 0 27 false 1 := ⟨by kernel_rfl⟩
instance fld_162_1 : FldI Tryz.prog 162 1 1 27 false 1 := ⟨by kernel_rfl⟩
instance fld_162_2 : FldI Tryz.prog 162 2 2 2 false 1 := ⟨by kernel_rfl⟩
instance fld_162_3 : FldI Tryz.prog 162 3 3 2 false 1 := ⟨by kernel_rfl⟩
instance fld_189_0 : FldI Tryz.prog 189 0 0 61 false 1 := ⟨by kernel_rfl⟩
instance fld_189_1 : FldI Tryz.prog 189 1 1 3 false 1 := ⟨by kernel_rfl⟩
instance fld_189_2 : FldI Tryz.prog 189 2 2 187 false 1 := ⟨by kernel_rfl⟩
instance fld_216_0 : FldI Tryz.prog 216 0 0 34 true 9 := ⟨by kernel_rfl⟩
instance fld_216_1 : FldI Tryz.prog 216 1 9 2 false 1 := ⟨by kernel_rfl⟩
instance fld_216_2 : FldI Tryz.prog 216 2 10 162 true 4 := ⟨by kernel_rfl⟩
instance fld_216_3 : FldI Tryz.prog 216 3 14 27 false 1 := ⟨by kernel_rfl⟩
instance eI_27 : ElI Tryz.prog 27 2 1 8 [.int .i64 0] := ⟨by kernel_rfl⟩
theorem el_27 : elOf Tryz.prog 27 = some (2, 1, 8, [.int .i64 0]) := ElI.h
instance eI_35 : ElI Tryz.prog 35 89 2 48 [.slice none 0 0, .slice none 0 0] := ⟨by kernel_rfl⟩
theorem el_35 : elOf Tryz.prog 35 = some (89, 2, 48, [.slice none 0 0, .slice none 0 0]) := ElI.h
instance eI_61 : ElI Tryz.prog 61 5 1 1 [.int .u8 0] := ⟨by kernel_rfl⟩
theorem el_61 : elOf Tryz.prog 61 = some (5, 1, 1, [.int .u8 0]) := ElI.h
instance eI_67 : ElI Tryz.prog 67 81 3 24 [.int .i64 0, .int .i64 0, .int .i64 0] := ⟨by kernel_rfl⟩
theorem el_67 : elOf Tryz.prog 67 = some (81, 3, 24, [.int .i64 0, .int .i64 0, .int .i64 0]) := ElI.h
instance eI_126 : ElI Tryz.prog 126 39 3 56 [.slice none 0 0, .slice none 0 0, .int .i64 0] := ⟨by kernel_rfl⟩
theorem el_126 : elOf Tryz.prog 126 = some (39, 3, 56, [.slice none 0 0, .slice none 0 0, .int .i64 0]) := ElI.h
instance eI_131 : ElI Tryz.prog 131 101 6 80 [.int .i64 0, .int .i64 0, .bool false, .slice none 0 0, .slice none 0 0, .int .i64 0] := ⟨by kernel_rfl⟩
theorem el_131 : elOf Tryz.prog 131 = some (101, 6, 80, [.int .i64 0, .int .i64 0, .bool false, .slice none 0 0, .slice none 0 0, .int .i64 0]) := ElI.h
instance eI_195 : ElI Tryz.prog 195 9 1 16 [.string ByteArray.empty] := ⟨by kernel_rfl⟩
theorem el_195 : elOf Tryz.prog 195 = some (9, 1, 16, [.string ByteArray.empty]) := ElI.h
instance zero_34 : ZeroI Tryz.prog 34 [.int .i64 0, .int .i64 0, .bool false, .bool false, .bool false, .bool false, .bool false, .int .i64 0, .int .i64 0] := ⟨by kernel_rfl⟩
instance zero_37 : ZeroI Tryz.prog 37 [.int .i64 0, .int .i64 0, .bool false, .bool false, .bool false, .bool false, .bool false, .int .i64 0, .int .i64 0, .slice none 0 0] := ⟨by kernel_rfl⟩
instance zero_39 : ZeroI Tryz.prog 39 [.slice none 0 0, .slice none 0 0, .int .i64 0] := ⟨by kernel_rfl⟩
instance zero_56 : ZeroI Tryz.prog 56 [.int .i64 0, .int .i64 0, .bool false, .bool false, .bool false, .bool false, .bool false, .int .i64 0, .int .i64 0, .slice none 0 0, .slice none 0 0, .int .i64 0, .slice none 0 0, .slice none 0 0, .slice none 0 0, .int .i64 0, .int .i64 0] := ⟨by kernel_rfl⟩
instance zero_81 : ZeroI Tryz.prog 81 [.int .i64 0, .int .i64 0, .int .i64 0] := ⟨by kernel_rfl⟩
instance zero_89 : ZeroI Tryz.prog 89 [.slice none 0 0, .slice none 0 0] := ⟨by kernel_rfl⟩
instance zero_101 : ZeroI Tryz.prog 101 [.int .i64 0, .int .i64 0, .bool false, .slice none 0 0, .slice none 0 0, .int .i64 0] := ⟨by kernel_rfl⟩
instance zero_162 : ZeroI Tryz.prog 162 [.slice none 0 0, .slice none 0 0, .int .i64 0, .int .i64 0] := ⟨by kernel_rfl⟩
instance zero_189 : ZeroI Tryz.prog 189 [.slice none 0 0, .int .i64 0, .int .u64 0] := ⟨by kernel_rfl⟩
instance zero_216 : ZeroI Tryz.prog 216 [.int .i64 0, .int .i64 0, .bool false, .bool false, .bool false, .bool false, .bool false, .int .i64 0, .int .i64 0, .int .i64 0, .slice none 0 0, .slice none 0 0, .int .i64 0, .int .i64 0, .slice none 0 0] := ⟨by kernel_rfl⟩
instance flds_34 : FldsI Tryz.prog 34 [(0, 1), (1, 1), (2, 1), (3, 1), (4, 1), (5, 1), (6, 1), (7, 1), (8, 1)] := ⟨by kernel_rfl⟩
instance flds_37 : FldsI Tryz.prog 37 [(0, 9), (9, 1)] := ⟨by kernel_rfl⟩
instance flds_39 : FldsI Tryz.prog 39 [(0, 1), (1, 1), (2, 1)] := ⟨by kernel_rfl⟩
instance flds_56 : FldsI Tryz.prog 56 [(0, 9), (9, 3), (12, 1), (13, 3), (16, 1)] := ⟨by kernel_rfl⟩
instance flds_81 : FldsI Tryz.prog 81 [(0, 1), (1, 1), (2, 1)] := ⟨by kernel_rfl⟩
instance flds_89 : FldsI Tryz.prog 89 [(0, 1), (1, 1)] := ⟨by kernel_rfl⟩
instance flds_101 : FldsI Tryz.prog 101 [(0, 1), (1, 1), (2, 1), (3, 3)] := ⟨by kernel_rfl⟩
instance flds_162 : FldsI Tryz.prog 162 [(0, 1), (1, 1), (2, 1), (3, 1)] := ⟨by kernel_rfl⟩
instance flds_189 : FldsI Tryz.prog 189 [(0, 1), (1, 1), (2, 1)] := ⟨by kernel_rfl⟩
instance flds_216 : FldsI Tryz.prog 216 [(0, 9), (9, 1), (10, 4), (14, 1)] := ⟨by kernel_rfl⟩
instance fn_25 : FnI Tryz.prog 25 := ⟨by kernel_rfl⟩
instance fn_27 : FnI Tryz.prog 27 := ⟨by kernel_rfl⟩
instance fn_30 : FnI Tryz.prog 30 := ⟨by kernel_rfl⟩
instance fn_38 : FnI Tryz.prog 38 := ⟨by kernel_rfl⟩
instance fn_42 : FnI Tryz.prog 42 := ⟨by kernel_rfl⟩
instance fn_46 : FnI Tryz.prog 46 := ⟨by kernel_rfl⟩
instance fn_47 : FnI Tryz.prog 47 := ⟨by kernel_rfl⟩
instance fn_48 : FnI Tryz.prog 48 := ⟨by kernel_rfl⟩
instance fn_49 : FnI Tryz.prog 49 := ⟨by kernel_rfl⟩
instance fn_50 : FnI Tryz.prog 50 := ⟨by kernel_rfl⟩
instance fn_51 : FnI Tryz.prog 51 := ⟨by kernel_rfl⟩
instance fn_54 : FnI Tryz.prog 54 := ⟨by kernel_rfl⟩
instance fn_55 : FnI Tryz.prog 55 := ⟨by kernel_rfl⟩
instance fn_56 : FnI Tryz.prog 56 := ⟨by kernel_rfl⟩
instance fn_57 : FnI Tryz.prog 57 := ⟨by kernel_rfl⟩
instance fn_59 : FnI Tryz.prog 59 := ⟨by kernel_rfl⟩
instance fn_63 : FnI Tryz.prog 63 := ⟨by kernel_rfl⟩
instance fn_64 : FnI Tryz.prog 64 := ⟨by kernel_rfl⟩
instance fn_67 : FnI Tryz.prog 67 := ⟨by kernel_rfl⟩
instance fn_71 : FnI Tryz.prog 71 := ⟨by kernel_rfl⟩
instance fn_72 : FnI Tryz.prog 72 := ⟨by kernel_rfl⟩
instance fn_73 : FnI Tryz.prog 73 := ⟨by kernel_rfl⟩
instance fn_74 : FnI Tryz.prog 74 := ⟨by kernel_rfl⟩
instance fn_75 : FnI Tryz.prog 75 := ⟨by kernel_rfl⟩
instance fn_76 : FnI Tryz.prog 76 := ⟨by kernel_rfl⟩
instance fn_77 : FnI Tryz.prog 77 := ⟨by kernel_rfl⟩
instance fn_78 : FnI Tryz.prog 78 := ⟨by kernel_rfl⟩
instance fn_79 : FnI Tryz.prog 79 := ⟨by kernel_rfl⟩
instance fn_80 : FnI Tryz.prog 80 := ⟨by kernel_rfl⟩
instance fn_82 : FnI Tryz.prog 82 := ⟨by kernel_rfl⟩
instance fn_83 : FnI Tryz.prog 83 := ⟨by kernel_rfl⟩
instance fn_84 : FnI Tryz.prog 84 := ⟨by kernel_rfl⟩
instance fn_85 : FnI Tryz.prog 85 := ⟨by kernel_rfl⟩
instance fn_86 : FnI Tryz.prog 86 := ⟨by kernel_rfl⟩
instance fn_87 : FnI Tryz.prog 87 := ⟨by kernel_rfl⟩
instance fn_88 : FnI Tryz.prog 88 := ⟨by kernel_rfl⟩
instance fn_91 : FnI Tryz.prog 91 := ⟨by kernel_rfl⟩
instance fn_92 : FnI Tryz.prog 92 := ⟨by kernel_rfl⟩
instance fn_93 : FnI Tryz.prog 93 := ⟨by kernel_rfl⟩
instance fn_94 : FnI Tryz.prog 94 := ⟨by kernel_rfl⟩
instance fn_95 : FnI Tryz.prog 95 := ⟨by kernel_rfl⟩
instance fn_97 : FnI Tryz.prog 97 := ⟨by kernel_rfl⟩
instance fn_98 : FnI Tryz.prog 98 := ⟨by kernel_rfl⟩
instance fn_99 : FnI Tryz.prog 99 := ⟨by kernel_rfl⟩
instance fn_100 : FnI Tryz.prog 100 := ⟨by kernel_rfl⟩
instance fn_101 : FnI Tryz.prog 101 := ⟨by kernel_rfl⟩
instance fn_103 : FnI Tryz.prog 103 := ⟨by kernel_rfl⟩
instance fn_104 : FnI Tryz.prog 104 := ⟨by kernel_rfl⟩
instance fn_105 : FnI Tryz.prog 105 := ⟨by kernel_rfl⟩
instance fn_106 : FnI Tryz.prog 106 := ⟨by kernel_rfl⟩
instance fn_107 : FnI Tryz.prog 107 := ⟨by kernel_rfl⟩
instance fn_108 : FnI Tryz.prog 108 := ⟨by kernel_rfl⟩
instance fn_109 : FnI Tryz.prog 109 := ⟨by kernel_rfl⟩
instance fn_110 : FnI Tryz.prog 110 := ⟨by kernel_rfl⟩
instance fn_111 : FnI Tryz.prog 111 := ⟨by kernel_rfl⟩
instance fn_113 : FnI Tryz.prog 113 := ⟨by kernel_rfl⟩
instance fn_114 : FnI Tryz.prog 114 := ⟨by kernel_rfl⟩
instance fn_115 : FnI Tryz.prog 115 := ⟨by kernel_rfl⟩
instance fn_117 : FnI Tryz.prog 117 := ⟨by kernel_rfl⟩
instance fn_118 : FnI Tryz.prog 118 := ⟨by kernel_rfl⟩
instance fn_119 : FnI Tryz.prog 119 := ⟨by kernel_rfl⟩
instance fn_120 : FnI Tryz.prog 120 := ⟨by kernel_rfl⟩
instance fn_121 : FnI Tryz.prog 121 := ⟨by kernel_rfl⟩
instance fn_123 : FnI Tryz.prog 123 := ⟨by kernel_rfl⟩
instance fn_124 : FnI Tryz.prog 124 := ⟨by kernel_rfl⟩
instance fn_126 : FnI Tryz.prog 126 := ⟨by kernel_rfl⟩
instance fn_129 : FnI Tryz.prog 129 := ⟨by kernel_rfl⟩
instance fn_130 : FnI Tryz.prog 130 := ⟨by kernel_rfl⟩
instance fn_131 : FnI Tryz.prog 131 := ⟨by kernel_rfl⟩
instance fn_132 : FnI Tryz.prog 132 := ⟨by kernel_rfl⟩
instance fn_133 : FnI Tryz.prog 133 := ⟨by kernel_rfl⟩
instance fn_134 : FnI Tryz.prog 134 := ⟨by kernel_rfl⟩
instance fn_135 : FnI Tryz.prog 135 := ⟨by kernel_rfl⟩
instance fn_137 : FnI Tryz.prog 137 := ⟨by kernel_rfl⟩
instance fn_138 : FnI Tryz.prog 138 := ⟨by kernel_rfl⟩
instance fn_139 : FnI Tryz.prog 139 := ⟨by kernel_rfl⟩
instance fn_140 : FnI Tryz.prog 140 := ⟨by kernel_rfl⟩
instance fn_141 : FnI Tryz.prog 141 := ⟨by kernel_rfl⟩
instance fn_142 : FnI Tryz.prog 142 := ⟨by kernel_rfl⟩
instance fn_143 : FnI Tryz.prog 143 := ⟨by kernel_rfl⟩
instance fn_144 : FnI Tryz.prog 144 := ⟨by kernel_rfl⟩
instance fn_145 : FnI Tryz.prog 145 := ⟨by kernel_rfl⟩
instance fn_146 : FnI Tryz.prog 146 := ⟨by kernel_rfl⟩
instance fn_147 : FnI Tryz.prog 147 := ⟨by kernel_rfl⟩
instance fn_148 : FnI Tryz.prog 148 := ⟨by kernel_rfl⟩
instance fn_149 : FnI Tryz.prog 149 := ⟨by kernel_rfl⟩
instance fn_150 : FnI Tryz.prog 150 := ⟨by kernel_rfl⟩
instance fn_151 : FnI Tryz.prog 151 := ⟨by kernel_rfl⟩
instance fn_152 : FnI Tryz.prog 152 := ⟨by kernel_rfl⟩
instance fn_153 : FnI Tryz.prog 153 := ⟨by kernel_rfl⟩
instance fn_154 : FnI Tryz.prog 154 := ⟨by kernel_rfl⟩
instance fn_155 : FnI Tryz.prog 155 := ⟨by kernel_rfl⟩
instance fn_156 : FnI Tryz.prog 156 := ⟨by kernel_rfl⟩
instance fn_158 : FnI Tryz.prog 158 := ⟨by kernel_rfl⟩
instance fn_159 : FnI Tryz.prog 159 := ⟨by kernel_rfl⟩
instance fn_160 : FnI Tryz.prog 160 := ⟨by kernel_rfl⟩
instance fn_161 : FnI Tryz.prog 161 := ⟨by kernel_rfl⟩
instance fn_162 : FnI Tryz.prog 162 := ⟨by kernel_rfl⟩
instance fn_163 : FnI Tryz.prog 163 := ⟨by kernel_rfl⟩
instance fn_166 : FnI Tryz.prog 166 := ⟨by kernel_rfl⟩
instance fn_167 : FnI Tryz.prog 167 := ⟨by kernel_rfl⟩
instance fn_168 : FnI Tryz.prog 168 := ⟨by kernel_rfl⟩
instance fn_169 : FnI Tryz.prog 169 := ⟨by kernel_rfl⟩
instance fn_170 : FnI Tryz.prog 170 := ⟨by kernel_rfl⟩
instance fn_171 : FnI Tryz.prog 171 := ⟨by kernel_rfl⟩
instance fn_172 : FnI Tryz.prog 172 := ⟨by kernel_rfl⟩
instance fn_173 : FnI Tryz.prog 173 := ⟨by kernel_rfl⟩
instance fn_174 : FnI Tryz.prog 174 := ⟨by kernel_rfl⟩
instance fn_175 : FnI Tryz.prog 175 := ⟨by kernel_rfl⟩
instance fn_176 : FnI Tryz.prog 176 := ⟨by kernel_rfl⟩
instance fn_177 : FnI Tryz.prog 177 := ⟨by kernel_rfl⟩
instance fn_178 : FnI Tryz.prog 178 := ⟨by kernel_rfl⟩
instance fn_179 : FnI Tryz.prog 179 := ⟨by kernel_rfl⟩
instance fn_180 : FnI Tryz.prog 180 := ⟨by kernel_rfl⟩
instance fn_183 : FnI Tryz.prog 183 := ⟨by kernel_rfl⟩
instance fn_184 : FnI Tryz.prog 184 := ⟨by kernel_rfl⟩
instance fn_185 : FnI Tryz.prog 185 := ⟨by kernel_rfl⟩
instance fn_186 : FnI Tryz.prog 186 := ⟨by kernel_rfl⟩
instance fn_187 : FnI Tryz.prog 187 := ⟨by kernel_rfl⟩
instance fn_188 : FnI Tryz.prog 188 := ⟨by kernel_rfl⟩
instance fn_189 : FnI Tryz.prog 189 := ⟨by kernel_rfl⟩
instance fn_190 : FnI Tryz.prog 190 := ⟨by kernel_rfl⟩
instance fn_191 : FnI Tryz.prog 191 := ⟨by kernel_rfl⟩
instance fn_192 : FnI Tryz.prog 192 := ⟨by kernel_rfl⟩
instance fn_193 : FnI Tryz.prog 193 := ⟨by kernel_rfl⟩
instance fn_194 : FnI Tryz.prog 194 := ⟨by kernel_rfl⟩
instance fn_195 : FnI Tryz.prog 195 := ⟨by kernel_rfl⟩
instance fn_196 : FnI Tryz.prog 196 := ⟨by kernel_rfl⟩
instance fn_197 : FnI Tryz.prog 197 := ⟨by kernel_rfl⟩
instance fn_198 : FnI Tryz.prog 198 := ⟨by kernel_rfl⟩
instance fn_199 : FnI Tryz.prog 199 := ⟨by kernel_rfl⟩
instance fn_200 : FnI Tryz.prog 200 := ⟨by kernel_rfl⟩
instance fn_201 : FnI Tryz.prog 201 := ⟨by kernel_rfl⟩
instance fn_202 : FnI Tryz.prog 202 := ⟨by kernel_rfl⟩
instance uI_4 : UndI Tryz.prog 4 (.bool) := ⟨@Tryz.underlying4⟩
instance uI_9 : UndI Tryz.prog 9 (.string) := ⟨@Tryz.underlying9⟩
theorem und_9 : Tryz.prog.underlying 9 = some (.string) := UndI.h
instance uI_10 : UndI Tryz.prog 10 (.string) := ⟨@Tryz.underlying10⟩
instance uI_11 : UndI Tryz.prog 11 (.string) := ⟨@Tryz.underlying11⟩
instance uI_24 : UndI Tryz.prog 24 (.slice 158) := ⟨@Tryz.underlying24⟩
instance uI_27 : UndI Tryz.prog 27 (.slice 2) := ⟨@Tryz.underlying27⟩
theorem und_27 : Tryz.prog.underlying 27 = some (.slice 2) := UndI.h
instance uI_35 : UndI Tryz.prog 35 (.slice 89) := ⟨@Tryz.underlying35⟩
theorem und_35 : Tryz.prog.underlying 35 = some (.slice 89) := UndI.h
instance uI_61 : UndI Tryz.prog 61 (.slice 5) := ⟨@Tryz.underlying61⟩
instance uI_67 : UndI Tryz.prog 67 (.slice 81) := ⟨@Tryz.underlying67⟩
theorem und_67 : Tryz.prog.underlying 67 = some (.slice 81) := UndI.h
instance uI_126 : UndI Tryz.prog 126 (.slice 39) := ⟨@Tryz.underlying126⟩
theorem und_126 : Tryz.prog.underlying 126 = some (.slice 39) := UndI.h
instance uI_131 : UndI Tryz.prog 131 (.slice 101) := ⟨@Tryz.underlying131⟩
theorem und_131 : Tryz.prog.underlying 131 = some (.slice 101) := UndI.h
instance uI_156 : UndI Tryz.prog 156 (.slice 227) := ⟨@Tryz.underlying156⟩
instance uI_195 : UndI Tryz.prog 195 (.slice 9) := ⟨@Tryz.underlying195⟩
instance mixI : MixI Tryz.prog := ⟨by kernel_rfl⟩
@[reducible] def cRules (x : M.Rul) : List Ty := [Ty.int x.pits, Ty.int x.seeds, Ty.bool x.stores, Ty.bool x.skip, Ty.bool x.relay, Ty.bool x.feed, Ty.bool x.again, Ty.int x.capture, Ty.int x.slam]
def lRules (xs : List M.Rul) : List Ty := xs.flatMap cRules
theorem lRules_length (xs : List M.Rul) : (lRules xs).length = xs.length * 9 := flat_len cRules 9 (fun _ => rfl) xs
instance : LenL lRules 9 := ⟨lRules_length⟩
set_option maxRecDepth 100000 in
theorem eqs_Rules (a b : M.Rul) (w : World) : (Op.equalIn 10000 34 (.agg #[.int .i64 a.pits, .int .i64 a.seeds, .bool a.stores, .bool a.skip, .bool a.relay, .bool a.feed, .bool a.again, .int .i64 a.capture, .int .i64 a.slam]) (.agg #[.int .i64 b.pits, .int .i64 b.seeds, .bool b.stores, .bool b.skip, .bool b.relay, .bool b.feed, .bool b.again, .int .i64 b.capture, .int .i64 b.slam])).run Tryz.prog w = .ok (decide (a = b)) w := by
  have u2 := Tryz.underlying2
  have u4 := Tryz.underlying4
  have i2 := run_equalIn_int (P := Tryz.prog) (d := 9998) (t := 2) (k := .i64) (k' := .i64) (h := u2)
  have i4 := run_equalIn_bool (P := Tryz.prog) 9998 (t := 4) u4
  rw [show (10000 : Nat) = 9999 + 1 from rfl, run_equalIn_agg w 9999 34 _ _ (by kernel_rfl) (by kernel_rfl)]
  simp only [Program.fieldsOf, Tryz.underlying34]
  go_simp
  by_cases h : a = b
  · subst h; simp
  rw [decide_eq_false h]
  by_cases h0 : a.pits = b.pits
  case neg => rw [if_neg h0]
  rw [if_pos h0]
  by_cases h1 : a.seeds = b.seeds
  case neg => rw [if_neg h1]
  rw [if_pos h1]
  by_cases h2 : a.stores = b.stores
  case neg => rw [if_neg h2]
  rw [if_pos h2]
  by_cases h3 : a.skip = b.skip
  case neg => rw [if_neg h3]
  rw [if_pos h3]
  by_cases h4 : a.relay = b.relay
  case neg => rw [if_neg h4]
  rw [if_pos h4]
  by_cases h5 : a.feed = b.feed
  case neg => rw [if_neg h5]
  rw [if_pos h5]
  by_cases h6 : a.again = b.again
  case neg => rw [if_neg h6]
  rw [if_pos h6]
  by_cases h7 : a.capture = b.capture
  case neg => rw [if_neg h7]
  rw [if_pos h7]
  by_cases h8 : a.slam = b.slam
  case neg => rw [if_neg h8]
  rw [if_pos h8]
  exact absurd (by cases a; cases b; simp_all) h
@[reducible] def cPosition (x : M.Pos) : List Ty := [Ty.ints 2 x.pits, Ty.ints 2 x.stores, Ty.int x.player]
def lPosition (xs : List M.Pos) : List Ty := xs.flatMap cPosition
theorem lPosition_length (xs : List M.Pos) : (lPosition xs).length = xs.length * 3 := flat_len cPosition 3 (fun _ => rfl) xs
instance : LenL lPosition 3 := ⟨lPosition_length⟩
theorem elem_Position {u : World} {e c i : Nat} {A : Option Addr} {xs : List M.Pos} {x : M.Pos} (h : (Ty.sl e 3 xs.length (lPosition xs)).ok u (.slice A xs.length c)) (hi : xs[i]? = some x) : ∃ b o A0 c0 A1 c1, elemA 3 (.slice A xs.length c) i = some ⟨b, o, none⟩ ∧ RowAt u b o [.slice A0 x.pits.length c0, .slice A1 x.stores.length c1, .int .i64 x.player] ∧ (Ty.ints 2 x.pits).ok u (.slice A0 x.pits.length c0) ∧ (Ty.ints 2 x.stores).ok u (.slice A1 x.stores.length c1) ∧ x.pits.length ≤ c0 ∧ c0 ≤ 9223372036854775807 ∧ x.stores.length ≤ c1 ∧ c1 ≤ 9223372036854775807 := by
  obtain ⟨b, o, vs, he, h, hr⟩ := sl_elem h (List.getElem?_eq_some_iff.1 hi).1 rfl
  have e := drop_flat cPosition 3 (fun _ => rfl) xs i x hi
  unfold lPosition at h
  rw [e] at h
  obtain ⟨x0, r, rfl, h0, h⟩ := cellsOk_cons h
  obtain ⟨x1, r, rfl, h1, h⟩ := cellsOk_cons h
  obtain ⟨x2, r, rfl, h2, h⟩ := cellsOk_cons h
  obtain rfl := cellsOk_nil h
  obtain ⟨A0, c0, rfl, b0, d0⟩ := sl_form h0
  obtain ⟨A1, c1, rfl, b1, d1⟩ := sl_form h1
  obtain rfl : x2 = .int .i64 x.player := h2
  exact ⟨b, o, A0, c0, A1, c1, he, hr, h0, h1, b0, d0, b1, d1⟩
theorem lPosition_snoc (xs : List M.Pos) (x : M.Pos) : lPosition xs ++ cPosition x = lPosition (xs ++ [x]) := by simp [lPosition]
@[reducible] def cSown (x : M.Sw) : List Ty := [Ty.ints 2 x.pits, Ty.ints 2 x.stores, Ty.int x.last, Ty.int x.laps]
def lSown (xs : List M.Sw) : List Ty := xs.flatMap cSown
theorem lSown_length (xs : List M.Sw) : (lSown xs).length = xs.length * 4 := flat_len cSown 4 (fun _ => rfl) xs
instance : LenL lSown 4 := ⟨lSown_length⟩
@[reducible] def csowing (x : M.Sow) : List Ty := [Ty.int x.rules.pits, Ty.int x.rules.seeds, Ty.bool x.rules.stores, Ty.bool x.rules.skip, Ty.bool x.rules.relay, Ty.bool x.rules.feed, Ty.bool x.rules.again, Ty.int x.rules.capture, Ty.int x.rules.slam, Ty.int x.player, Ty.ints 2 x.sown.pits, Ty.ints 2 x.sown.stores, Ty.int x.sown.last, Ty.int x.sown.laps, Ty.ints 2 x.path]
theorem ref_sowing {u : World} {v : Value} {x : M.Sow} (h : (Ty.ref (csowing x)).ok u v) : ∃ b o A10 c10 A11 c11 A14 c14, v = .pointer (some ⟨b, o, none⟩) ∧ RowAt u b o [.int .i64 x.rules.pits, .int .i64 x.rules.seeds, .bool x.rules.stores, .bool x.rules.skip, .bool x.rules.relay, .bool x.rules.feed, .bool x.rules.again, .int .i64 x.rules.capture, .int .i64 x.rules.slam, .int .i64 x.player, .slice A10 x.sown.pits.length c10, .slice A11 x.sown.stores.length c11, .int .i64 x.sown.last, .int .i64 x.sown.laps, .slice A14 x.path.length c14] ∧ (Ty.ints 2 x.sown.pits).ok u (.slice A10 x.sown.pits.length c10) ∧ (Ty.ints 2 x.sown.stores).ok u (.slice A11 x.sown.stores.length c11) ∧ (Ty.ints 2 x.path).ok u (.slice A14 x.path.length c14) ∧ x.sown.pits.length ≤ c10 ∧ c10 ≤ 9223372036854775807 ∧ x.sown.stores.length ≤ c11 ∧ c11 ≤ 9223372036854775807 ∧ x.path.length ≤ c14 ∧ c14 ≤ 9223372036854775807 := by
  obtain ⟨b, o, vs, rfl, h, hr⟩ := h
  obtain ⟨x0, r, rfl, h0, h⟩ := cellsOk_cons h
  obtain ⟨x1, r, rfl, h1, h⟩ := cellsOk_cons h
  obtain ⟨x2, r, rfl, h2, h⟩ := cellsOk_cons h
  obtain ⟨x3, r, rfl, h3, h⟩ := cellsOk_cons h
  obtain ⟨x4, r, rfl, h4, h⟩ := cellsOk_cons h
  obtain ⟨x5, r, rfl, h5, h⟩ := cellsOk_cons h
  obtain ⟨x6, r, rfl, h6, h⟩ := cellsOk_cons h
  obtain ⟨x7, r, rfl, h7, h⟩ := cellsOk_cons h
  obtain ⟨x8, r, rfl, h8, h⟩ := cellsOk_cons h
  obtain ⟨x9, r, rfl, h9, h⟩ := cellsOk_cons h
  obtain ⟨x10, r, rfl, h10, h⟩ := cellsOk_cons h
  obtain ⟨x11, r, rfl, h11, h⟩ := cellsOk_cons h
  obtain ⟨x12, r, rfl, h12, h⟩ := cellsOk_cons h
  obtain ⟨x13, r, rfl, h13, h⟩ := cellsOk_cons h
  obtain ⟨x14, r, rfl, h14, h⟩ := cellsOk_cons h
  obtain rfl := cellsOk_nil h
  obtain rfl : x0 = .int .i64 x.rules.pits := h0
  obtain rfl : x1 = .int .i64 x.rules.seeds := h1
  obtain rfl : x2 = .bool x.rules.stores := h2
  obtain rfl : x3 = .bool x.rules.skip := h3
  obtain rfl : x4 = .bool x.rules.relay := h4
  obtain rfl : x5 = .bool x.rules.feed := h5
  obtain rfl : x6 = .bool x.rules.again := h6
  obtain rfl : x7 = .int .i64 x.rules.capture := h7
  obtain rfl : x8 = .int .i64 x.rules.slam := h8
  obtain rfl : x9 = .int .i64 x.player := h9
  obtain ⟨A10, c10, rfl, b10, d10⟩ := sl_form h10
  obtain ⟨A11, c11, rfl, b11, d11⟩ := sl_form h11
  obtain rfl : x12 = .int .i64 x.sown.last := h12
  obtain rfl : x13 = .int .i64 x.sown.laps := h13
  obtain ⟨A14, c14, rfl, b14, d14⟩ := sl_form h14
  exact ⟨b, o, A10, c10, A11, c11, A14, c14, rfl, hr, h10, h11, h14, b10, d10, b11, d11, b14, d14⟩
def lsowing (xs : List M.Sow) : List Ty := xs.flatMap csowing
theorem lsowing_length (xs : List M.Sow) : (lsowing xs).length = xs.length * 15 := flat_len csowing 15 (fun _ => rfl) xs
instance : LenL lsowing 15 := ⟨lsowing_length⟩
@[reducible] def cResult (x : M.Res) : List Ty := [Ty.int x.move, Ty.int x.gain, Ty.bool x.again, Ty.ints 2 x.next.pits, Ty.ints 2 x.next.stores, Ty.int x.next.player]
def lResult (xs : List M.Res) : List Ty := xs.flatMap cResult
theorem lResult_length (xs : List M.Res) : (lResult xs).length = xs.length * 6 := flat_len cResult 6 (fun _ => rfl) xs
instance : LenL lResult 6 := ⟨lResult_length⟩
theorem elem_Result {u : World} {e c i : Nat} {A : Option Addr} {xs : List M.Res} {x : M.Res} (h : (Ty.sl e 6 xs.length (lResult xs)).ok u (.slice A xs.length c)) (hi : xs[i]? = some x) : ∃ b o A3 c3 A4 c4, elemA 6 (.slice A xs.length c) i = some ⟨b, o, none⟩ ∧ RowAt u b o [.int .i64 x.move, .int .i64 x.gain, .bool x.again, .slice A3 x.next.pits.length c3, .slice A4 x.next.stores.length c4, .int .i64 x.next.player] ∧ (Ty.ints 2 x.next.pits).ok u (.slice A3 x.next.pits.length c3) ∧ (Ty.ints 2 x.next.stores).ok u (.slice A4 x.next.stores.length c4) ∧ x.next.pits.length ≤ c3 ∧ c3 ≤ 9223372036854775807 ∧ x.next.stores.length ≤ c4 ∧ c4 ≤ 9223372036854775807 := by
  obtain ⟨b, o, vs, he, h, hr⟩ := sl_elem h (List.getElem?_eq_some_iff.1 hi).1 rfl
  have e := drop_flat cResult 6 (fun _ => rfl) xs i x hi
  unfold lResult at h
  rw [e] at h
  obtain ⟨x0, r, rfl, h0, h⟩ := cellsOk_cons h
  obtain ⟨x1, r, rfl, h1, h⟩ := cellsOk_cons h
  obtain ⟨x2, r, rfl, h2, h⟩ := cellsOk_cons h
  obtain ⟨x3, r, rfl, h3, h⟩ := cellsOk_cons h
  obtain ⟨x4, r, rfl, h4, h⟩ := cellsOk_cons h
  obtain ⟨x5, r, rfl, h5, h⟩ := cellsOk_cons h
  obtain rfl := cellsOk_nil h
  obtain rfl : x0 = .int .i64 x.move := h0
  obtain rfl : x1 = .int .i64 x.gain := h1
  obtain rfl : x2 = .bool x.again := h2
  obtain ⟨A3, c3, rfl, b3, d3⟩ := sl_form h3
  obtain ⟨A4, c4, rfl, b4, d4⟩ := sl_form h4
  obtain rfl : x5 = .int .i64 x.next.player := h5
  exact ⟨b, o, A3, c3, A4, c4, he, hr, h3, h4, b3, d3, b4, d4⟩
theorem elemv_Result {w : World} {i : Nat} {xs : List M.Res} {x : M.Res} {vs : List Value} (h : cellsOk w (lResult xs) vs) (hi : xs[i]? = some x) : ∃ A3 c3 A4 c4, (vs.drop (0 + i * 6)).take 6 = [.int .i64 x.move, .int .i64 x.gain, .bool x.again, .slice A3 x.next.pits.length c3, .slice A4 x.next.stores.length c4, .int .i64 x.next.player] ∧ x.next.pits.length ≤ c3 ∧ c3 ≤ 9223372036854775807 ∧ x.next.stores.length ≤ c4 ∧ c4 ≤ 9223372036854775807 := by
  rw [Nat.zero_add]
  have h := cellsOk.take 6 (cellsOk.drop (i * 6) h)
  rw [lResult, drop_flat cResult 6 (fun _ => rfl) xs i x hi] at h
  generalize (vs.drop (i * 6)).take 6 = vs at h ⊢
  obtain ⟨x0, r, rfl, h0, h⟩ := cellsOk_cons h
  obtain ⟨x1, r, rfl, h1, h⟩ := cellsOk_cons h
  obtain ⟨x2, r, rfl, h2, h⟩ := cellsOk_cons h
  obtain ⟨x3, r, rfl, h3, h⟩ := cellsOk_cons h
  obtain ⟨x4, r, rfl, h4, h⟩ := cellsOk_cons h
  obtain ⟨x5, r, rfl, h5, h⟩ := cellsOk_cons h
  obtain rfl := cellsOk_nil h
  obtain rfl : x0 = .int .i64 x.move := h0
  obtain rfl : x1 = .int .i64 x.gain := h1
  obtain rfl : x2 = .bool x.again := h2
  obtain ⟨A3, c3, rfl, b3, d3⟩ := sl_form h3
  obtain ⟨A4, c4, rfl, b4, d4⟩ := sl_form h4
  obtain rfl : x5 = .int .i64 x.next.player := h5
  exact ⟨A3, c3, A4, c4, rfl, b3, d3, b4, d4⟩
theorem lResult_snoc (xs : List M.Res) (x : M.Res) : lResult xs ++ cResult x = lResult (xs ++ [x]) := by simp [lResult]
theorem pack_Result {w : World} {x : M.Res} {v1 v2 : Value} {f1 f2 : List Nat} (h1 : (Ty.ints 2 x.next.pits).own w v1 f1) (h2 : (Ty.ints 2 x.next.stores).own w v2 f2) : cellsOwn w (cResult x) [.int .i64 x.move, .int .i64 x.gain, .bool x.again, v1, v2, .int .i64 x.next.player] (f1 ++ f2) :=
  ⟨[], f1 ++ f2, rfl, ⟨rfl, rfl⟩, ⟨[], f1 ++ f2, rfl, ⟨rfl, rfl⟩, ⟨[], f1 ++ f2, rfl, ⟨rfl, rfl⟩, ⟨f1, f2, rfl, h1, ⟨f2, [], (List.append_nil _).symm, h2, ⟨[], [], rfl, ⟨rfl, rfl⟩, rfl⟩⟩⟩⟩⟩⟩
@[reducible] def cResultL (x : M.Res) : List Ty := [Ty.int x.move, Ty.int x.gain, Ty.bool x.again, Ty.any, Ty.any, Ty.any]
def lResultL (xs : List M.Res) : List Ty := xs.flatMap cResultL
theorem lResultL_length (xs : List M.Res) : (lResultL xs).length = xs.length * 6 := flat_len cResultL 6 (fun _ => rfl) xs
instance : LenL lResultL 6 := ⟨lResultL_length⟩
theorem lResultL_snoc (xs : List M.Res) (x : M.Res) : lResultL xs ++ cResultL x = lResultL (xs ++ [x]) := by simp [lResultL]
@[reducible] def cChoice (x : M.Cho) : List Ty := [Ty.int x.move, Ty.int x.games, Ty.int x.score]
def lChoice (xs : List M.Cho) : List Ty := xs.flatMap cChoice
theorem lChoice_length (xs : List M.Cho) : (lChoice xs).length = xs.length * 3 := flat_len cChoice 3 (fun _ => rfl) xs
instance : LenL lChoice 3 := ⟨lChoice_length⟩
theorem elem_Choice {u : World} {e c i : Nat} {A : Option Addr} {xs : List M.Cho} {x : M.Cho} (h : (Ty.sl e 3 xs.length (lChoice xs)).ok u (.slice A xs.length c)) (hi : xs[i]? = some x) : ∃ b o, elemA 3 (.slice A xs.length c) i = some ⟨b, o, none⟩ ∧ RowAt u b o [.int .i64 x.move, .int .i64 x.games, .int .i64 x.score] := by
  obtain ⟨b, o, vs, he, h, hr⟩ := sl_elem h (List.getElem?_eq_some_iff.1 hi).1 rfl
  have e := drop_flat cChoice 3 (fun _ => rfl) xs i x hi
  unfold lChoice at h
  rw [e] at h
  obtain ⟨x0, r, rfl, h0, h⟩ := cellsOk_cons h
  obtain ⟨x1, r, rfl, h1, h⟩ := cellsOk_cons h
  obtain ⟨x2, r, rfl, h2, h⟩ := cellsOk_cons h
  obtain rfl := cellsOk_nil h
  obtain rfl : x0 = .int .i64 x.move := h0
  obtain rfl : x1 = .int .i64 x.games := h1
  obtain rfl : x2 = .int .i64 x.score := h2
  exact ⟨b, o, he, hr⟩
set_option maxRecDepth 100000 in
theorem eqs_Choice (a b : M.Cho) (w : World) : (Op.equalIn 10000 81 (.agg #[.int .i64 a.move, .int .i64 a.games, .int .i64 a.score]) (.agg #[.int .i64 b.move, .int .i64 b.games, .int .i64 b.score])).run Tryz.prog w = .ok (decide (a = b)) w := by
  have u2 := Tryz.underlying2
  have i2 := run_equalIn_int (P := Tryz.prog) (d := 9998) (t := 2) (k := .i64) (k' := .i64) (h := u2)
  rw [show (10000 : Nat) = 9999 + 1 from rfl, run_equalIn_agg w 9999 81 _ _ (by kernel_rfl) (by kernel_rfl)]
  simp only [Program.fieldsOf, Tryz.underlying81]
  go_simp
  by_cases h : a = b
  · subst h; simp
  rw [decide_eq_false h]
  by_cases h0 : a.move = b.move
  case neg => rw [if_neg h0]
  rw [if_pos h0]
  by_cases h1 : a.games = b.games
  case neg => rw [if_neg h1]
  rw [if_pos h1]
  by_cases h2 : a.score = b.score
  case neg => rw [if_neg h2]
  rw [if_pos h2]
  exact absurd (by cases a; cases b; simp_all) h
@[reducible] def vcChoice (x : M.Cho) : List Value := [.int .i64 x.move, .int .i64 x.games, .int .i64 x.score]
instance flt_Choice : FltL lChoice vcChoice 3 := flt_mk cChoice vcChoice 3 (fun w x => ⟨[], [], rfl, ⟨rfl, rfl⟩, ⟨[], [], rfl, ⟨rfl, rfl⟩, ⟨[], [], rfl, ⟨rfl, rfl⟩, rfl⟩⟩⟩) (fun w x vs f h => by
    obtain ⟨x0, r0, g0, q0, rfl, rfl, ⟨rfl, rfl⟩, h0⟩ := cellsOwn_cons h
    obtain ⟨x1, r1, g1, q1, rfl, rfl, ⟨rfl, rfl⟩, h1⟩ := cellsOwn_cons h0
    obtain ⟨x2, r2, g2, q2, rfl, rfl, ⟨rfl, rfl⟩, h2⟩ := cellsOwn_cons h1
    obtain ⟨rfl, rfl⟩ := cellsOwn_nil h2
    exact ⟨rfl, rfl⟩) (fun w x vs h => by
    obtain ⟨x0, r, rfl, h0, h⟩ := cellsOk_cons h
    obtain ⟨x1, r, rfl, h1, h⟩ := cellsOk_cons h
    obtain ⟨x2, r, rfl, h2, h⟩ := cellsOk_cons h
    obtain rfl := cellsOk_nil h
    obtain rfl : x0 = .int .i64 x.move := h0
    obtain rfl : x1 = .int .i64 x.games := h1
    obtain rfl : x2 = .int .i64 x.score := h2
    rfl) (fun _ => rfl) (fun _ => rfl) (fun _ => rfl) (by decide)
@[reducible] def cBookEntry (x : M.Ent) : List Ty := [Ty.ints 2 x.pits, Ty.sl 81 3 x.choices.length (lChoice x.choices)]
def lBookEntry (xs : List M.Ent) : List Ty := xs.flatMap cBookEntry
theorem lBookEntry_length (xs : List M.Ent) : (lBookEntry xs).length = xs.length * 2 := flat_len cBookEntry 2 (fun _ => rfl) xs
instance : LenL lBookEntry 2 := ⟨lBookEntry_length⟩
theorem elem_BookEntry {u : World} {e c i : Nat} {A : Option Addr} {xs : List M.Ent} {x : M.Ent} (h : (Ty.sl e 2 xs.length (lBookEntry xs)).ok u (.slice A xs.length c)) (hi : xs[i]? = some x) : ∃ b o A0 c0 A1 c1, elemA 2 (.slice A xs.length c) i = some ⟨b, o, none⟩ ∧ RowAt u b o [.slice A0 x.pits.length c0, .slice A1 x.choices.length c1] ∧ (Ty.ints 2 x.pits).ok u (.slice A0 x.pits.length c0) ∧ (Ty.sl 81 3 x.choices.length (lChoice x.choices)).ok u (.slice A1 x.choices.length c1) ∧ x.pits.length ≤ c0 ∧ c0 ≤ 9223372036854775807 ∧ x.choices.length ≤ c1 ∧ c1 ≤ 9223372036854775807 := by
  obtain ⟨b, o, vs, he, h, hr⟩ := sl_elem h (List.getElem?_eq_some_iff.1 hi).1 rfl
  have e := drop_flat cBookEntry 2 (fun _ => rfl) xs i x hi
  unfold lBookEntry at h
  rw [e] at h
  obtain ⟨x0, r, rfl, h0, h⟩ := cellsOk_cons h
  obtain ⟨x1, r, rfl, h1, h⟩ := cellsOk_cons h
  obtain rfl := cellsOk_nil h
  obtain ⟨A0, c0, rfl, b0, d0⟩ := sl_form h0
  obtain ⟨A1, c1, rfl, b1, d1⟩ := sl_form h1
  exact ⟨b, o, A0, c0, A1, c1, he, hr, h0, h1, b0, d0, b1, d1⟩
theorem elemv_BookEntry {w : World} {i : Nat} {xs : List M.Ent} {x : M.Ent} {vs : List Value} (h : cellsOk w (lBookEntry xs) vs) (hi : xs[i]? = some x) : ∃ A0 c0 A1 c1, (vs.drop (0 + i * 2)).take 2 = [.slice A0 x.pits.length c0, .slice A1 x.choices.length c1] ∧ x.pits.length ≤ c0 ∧ c0 ≤ 9223372036854775807 ∧ x.choices.length ≤ c1 ∧ c1 ≤ 9223372036854775807 := by
  rw [Nat.zero_add]
  have h := cellsOk.take 2 (cellsOk.drop (i * 2) h)
  rw [lBookEntry, drop_flat cBookEntry 2 (fun _ => rfl) xs i x hi] at h
  generalize (vs.drop (i * 2)).take 2 = vs at h ⊢
  obtain ⟨x0, r, rfl, h0, h⟩ := cellsOk_cons h
  obtain ⟨x1, r, rfl, h1, h⟩ := cellsOk_cons h
  obtain rfl := cellsOk_nil h
  obtain ⟨A0, c0, rfl, b0, d0⟩ := sl_form h0
  obtain ⟨A1, c1, rfl, b1, d1⟩ := sl_form h1
  exact ⟨A0, c0, A1, c1, rfl, b0, d0, b1, d1⟩
theorem lBookEntry_snoc (xs : List M.Ent) (x : M.Ent) : lBookEntry xs ++ cBookEntry x = lBookEntry (xs ++ [x]) := by simp [lBookEntry]
@[reducible] def cBook (x : M.Boo) : List Ty := [Ty.int x.rules.pits, Ty.int x.rules.seeds, Ty.bool x.rules.stores, Ty.bool x.rules.skip, Ty.bool x.rules.relay, Ty.bool x.rules.feed, Ty.bool x.rules.again, Ty.int x.rules.capture, Ty.int x.rules.slam, Ty.sl 89 2 x.entries.length (lBookEntry x.entries)]
def lBook (xs : List M.Boo) : List Ty := xs.flatMap cBook
theorem lBook_length (xs : List M.Boo) : (lBook xs).length = xs.length * 10 := flat_len cBook 10 (fun _ => rfl) xs
instance : LenL lBook 10 := ⟨lBook_length⟩
@[reducible] def cPositionL (x : M.Pos) : List Ty := [Ty.rx 2 x.pits, Ty.ints 2 x.stores, Ty.int x.player]
def lPositionL (xs : List M.Pos) : List Ty := xs.flatMap cPositionL
theorem lPositionL_length (xs : List M.Pos) : (lPositionL xs).length = xs.length * 3 := flat_len cPositionL 3 (fun _ => rfl) xs
instance : LenL lPositionL 3 := ⟨lPositionL_length⟩
@[reducible] def cGameL (x : M.Gam) : List Ty := [Ty.int x.rules.pits, Ty.int x.rules.seeds, Ty.bool x.rules.stores, Ty.bool x.rules.skip, Ty.bool x.rules.relay, Ty.bool x.rules.feed, Ty.bool x.rules.again, Ty.int x.rules.capture, Ty.int x.rules.slam, Ty.ints 2 x.start.pits, Ty.ints 2 x.start.stores, Ty.int x.start.player, Ty.ro 2 x.moves, Ty.ints 2 x.now.pits, Ty.ints 2 x.now.stores, Ty.int x.now.player, Ty.int x.resigned]
def lGameL (xs : List M.Gam) : List Ty := xs.flatMap cGameL
theorem lGameL_length (xs : List M.Gam) : (lGameL xs).length = xs.length * 17 := flat_len cGameL 17 (fun _ => rfl) xs
instance : LenL lGameL 17 := ⟨lGameL_length⟩
@[reducible] def cGame (x : M.Gam) : List Ty := [Ty.int x.rules.pits, Ty.int x.rules.seeds, Ty.bool x.rules.stores, Ty.bool x.rules.skip, Ty.bool x.rules.relay, Ty.bool x.rules.feed, Ty.bool x.rules.again, Ty.int x.rules.capture, Ty.int x.rules.slam, Ty.ints 2 x.start.pits, Ty.ints 2 x.start.stores, Ty.int x.start.player, Ty.ints 2 x.moves, Ty.ints 2 x.now.pits, Ty.ints 2 x.now.stores, Ty.int x.now.player, Ty.int x.resigned]
def lGame (xs : List M.Gam) : List Ty := xs.flatMap cGame
theorem lGame_length (xs : List M.Gam) : (lGame xs).length = xs.length * 17 := flat_len cGame 17 (fun _ => rfl) xs
instance : LenL lGame 17 := ⟨lGame_length⟩
open Go.RowKit Go.ChangeShapes Go.WideShapes Go.ChangeAt
theorem cell_of {w : World} {b o : Nat} {x : Value} (h : w.cell? ⟨b, o, none⟩ = some x) : Cell w b o x := by
  unfold World.cell? at h
  split at h
  · rename_i c t f hb
    exact ⟨c, t, f, hb, by simpa using h⟩
  all_goals simp at h
section
variable {H : Type} {enc : TypeId × Value → H} {w : World} {spare : Nat → Bool} {held : Bool} {fuel : Nat} {x : DataW H × List MemPlace} {cs : List Value}
end
section
variable {H : Type} {enc : TypeId × Value → H} {w : World} {spare : Nat → Bool} {held : Bool} {fuel : Nat} {x : DataW H × List MemPlace} {cs : List Value}
theorem byte_wf {n : Int} (h : (Lit.int .u8 n).wf = true) : 0 ≤ n ∧ n ≤ 255 := by
  simp only [Lit.wf, Bool.and_eq_true, decide_eq_true_eq] at h
  first | exact h | (obtain ⟨a, b⟩ := h; constructor <;> simp_all [IntKind.min, IntKind.max] <;> omega)
theorem bytes_ok (w : World) : ∀ (l : List Int), (∀ n ∈ l, 0 ≤ n ∧ n ≤ 255) → cellsOk w (List.replicate l.length Ty.byte) (l.map (fun n => .int .u8 n))
  | [], _ => trivial
  | n :: l, h => ⟨⟨n, rfl, h n (by simp)⟩, bytes_ok w l (fun m hm => h m (by simp [hm]))⟩
theorem rd_bytes {P : Program} {t e : TypeId} (ht : P.underlying t = some (.slice e)) (he : P.underlying e = some (.int .u8)) (hc : P.cellsOf e = 1) (h : DataW.trod enc P w 0 spare held fuel t cs = some x) : ∃ n : Nat, cellsOk w [Ty.bytes e n] cs := by
  rcases open_ints ht he hc h with ⟨rfl, _⟩ | ⟨a, len, cap, zs, rfl, _, hl, hm, hz, _, hcell, hwf⟩
  · exact ⟨0, nil_ok, trivial⟩
  · have hlz : len ≤ zs.length := by rw [hz]; split <;> omega
    have hlen : (zs.take len).length = len := by simp; omega
    refine ⟨len, ⟨by simp, some a, cap, (zs.take len).map (fun n => .int .u8 n), rfl, hl, hm, ?_, fun hp => ?_⟩, trivial⟩
    · have := bytes_ok w (zs.take len) (fun n hn => byte_wf (hwf n (List.mem_of_mem_take hn)))
      rwa [hlen] at this
    have hp : 0 < len := by simpa using hp
    obtain ⟨b, off, spot⟩ := a
    have hspot : spot = none := by simpa [Addr.add] using World.cell?_spot (hcell 0 (by omega))
    subst hspot
    refine ⟨b, off, rfl, fun j v hj => ?_⟩
    simp only [List.getElem?_map, Option.map_eq_some_iff] at hj
    obtain ⟨n, hn, rfl⟩ := hj
    rw [List.getElem?_take] at hn
    split at hn
    · rename_i hjl
      have := hcell j (by omega)
      rw [addr_add] at this
      have e : zs.getD j 0 = n := by simp [List.getD, hn]
      rw [e] at this
      exact cell_of this
    · simp at hn
end
section
variable {H : Type} {enc : TypeId × Value → H} {w : World} {spare : Nat → Bool} {held : Bool} {fuel : Nat} {x : DataW H × List MemPlace} {cs : List Value}
end
end Go.Proofs.YtcmfnlleikcpnaaGreat
namespace Go.Proofs.YtcmfnlleikcpnaaGreat.M
structure Opt where
  move : Int
  value : Int
  deriving DecidableEq
structure Puz where
  rules : Rul
  position : Pos
  depth : Int
  move : Int
  value : Int
  margin : Int
  deriving DecidableEq
def Opt.zero : Opt := ⟨0, 0⟩
def Puz.zero : Puz := ⟨Rul.zero, Pos.zero, 0, 0, 0, 0⟩
def endV (r : Rul) (p : Pos) : Int := side r p.pits p.player - side r p.pits (1 - p.player)
def moveV (x : Res) (v : Int) : Int := if x.again = true then x.gain + v else x.gain - v
def bestF (fst : Bool) (b : Int) : List Int → Int
  | [] => b
  | v :: l => bestF false (if fst = true ∨ b < v then v else b) l
def best (l : List Int) : Int := bestF true 0 l
theorem results_fact {r : Rul} {p : Pos} {x : Res} (h : x ∈ results r p) : ∃ move : Int, (make r p move).2 = 0 ∧ x = (make r p move).1 := by
  obtain ⟨m, _, h2, h3⟩ := resultsTo_mem.1 h
  exact ⟨_, h2, h3⟩
theorem results_8 {r : Rul} {p : Pos} (h : okP r p = true) : (results r p).length ≤ 8 := by
  have h1 := resultsTo_len (r := r) (p := p) r.pits.toNat
  have h2 := okP_bd h
  unfold results; omega
def val (r : Rul) : Nat → Pos → Int
  | 0, p => if (results r p).length = 0 then endV r p else 0
  | d + 1, p => if (results r p).length = 0 then endV r p else best ((results r p).map fun x => moveV x (val r d x.next))
def vals (r : Rul) (d : Nat) (p : Pos) : List Int := (results r p).map fun x => moveV x (val r d x.next)
theorem drop_some {α : Type} {l : List α} {k : Nat} {y : α} (h : l[k]? = some y) : l.drop k = y :: l.drop (k + 1) := by
  obtain ⟨hk, rfl⟩ := List.getElem?_eq_some_iff.1 h
  exact List.drop_eq_getElem_cons hk
def size (r : Rul) : Nat → Pos → Int
  | 0, _ => 1
  | d + 1, p => 1 + isum ((results r p).map fun x => size r d x.next)
theorem size_pos (r : Rul) : ∀ (d : Nat) (p : Pos), 1 ≤ size r d p
  | 0, _ => by rw [size]; omega
  | d + 1, p => by
    rw [size]
    have := nn_isum (l := (results r p).map fun x => size r d x.next) (fun v hv => by
      obtain ⟨x, _, rfl⟩ := List.mem_map.1 hv
      have := size_pos r d x.next; omega)
    omega
theorem isum_mem {l : List Int} {v : Int} (h : nn l) (hv : v ∈ l) : v ≤ isum l := by
  obtain ⟨k, hk, rfl⟩ := List.getElem_of_mem hv
  rw [← nth_eq hk]; exact nth_le_isum h k
theorem size_sub {r : Rul} {d : Nat} {p : Pos} {x : Res} (h : x ∈ results r p) : size r d x.next ≤ size r (d + 1) p := by
  have := isum_mem (l := (results r p).map fun x => size r d x.next) (v := size r d x.next) (fun v hv => by
      obtain ⟨x, _, rfl⟩ := List.mem_map.1 hv
      have := size_pos r d x.next; omega) (List.mem_map.2 ⟨x, h, rfl⟩)
  rw [size]; omega
def srchC (r : Rul) (p : Pos) (depth : Int) : Int := if okP r p = true then (if betw depth 0 8 = true then (if 3000 < size r depth.toNat p then 5 else 0) else 2) else 1
theorem srchC_ok {r : Rul} {p : Pos} {depth : Int} (h : srchC r p depth = 0) : okP r p = true ∧ 0 ≤ depth ∧ depth ≤ 8 ∧ size r depth.toNat p ≤ 3000 := by
  unfold srchC at h
  by_cases h1 : okP r p = true
  · rw [if_pos h1] at h
    by_cases h2 : betw depth 0 8 = true
    · rw [if_pos h2] at h
      by_cases h3 : 3000 < size r depth.toNat p
      · rw [if_pos h3] at h; simp at h
      · have := betw_iff.1 h2; exact ⟨h1, this.1, this.2, by omega⟩
    · rw [if_neg h2] at h; simp at h
  · rw [if_neg h1] at h; simp at h
def optOf (r : Rul) (d : Nat) (x : Res) : Opt := ⟨x.move, moveV x (val r d x.next)⟩
def opts (r : Rul) (p : Pos) (depth : Int) : List Opt := (results r p).map (optOf r (depth - 1).toNat)
theorem opts_len (r : Rul) (p : Pos) (depth : Int) : (opts r p depth).length = (results r p).length := by simp [opts]
def bOptF (b : Opt) : List Opt → Opt
  | [] => b
  | o :: l => bOptF (if b.value < o.value then o else b) l
def bOpt : List Opt → Opt
  | [] => Opt.zero
  | a :: l => bOptF a l
theorem bOptF_mem : ∀ (l : List Opt) (b : Opt), bOptF b l = b ∨ bOptF b l ∈ l
  | [], b => .inl rfl
  | o :: l, b => by
    rw [bOptF]
    rcases bOptF_mem l (if b.value < o.value then o else b) with h | h
    · rw [h]; split
      · exact .inr (by simp)
      · exact .inl rfl
    · exact .inr (by simp [h])
theorem bOpt_mem {l : List Opt} (h : l.length ≠ 0) : bOpt l ∈ l := by
  cases l with
  | nil => simp at h
  | cons a t =>
    rcases bOptF_mem t a with e | e
    · show bOptF a t ∈ _; rw [e]; simp
    · show bOptF a t ∈ _; simp [e]
theorem bOpt_make {r : Rul} {p : Pos} {depth : Int} (h : (results r p).length ≠ 0) : (make r p (bOpt (opts r p depth)).move).2 = 0 ∧ (make r p (bOpt (opts r p depth)).move).1 ∈ results r p := by
  have h1 := bOpt_mem (l := opts r p depth) (by rw [opts_len]; exact h)
  obtain ⟨x, hx, e⟩ := List.mem_map.1 h1
  obtain ⟨m, hm, rfl⟩ := results_fact hx
  have h3 := (make_ok hm).2.2.2.2.1
  have h4 : (bOpt (opts r p depth)).move = m := by rw [← e]; exact h3
  rw [h4]; exact ⟨hm, hx⟩
def lineT (r : Rul) : Nat → Pos → List Int
  | 0, _ => []
  | d + 1, p => if (results r p).length = 0 then [] else (bOpt (opts r p (d + 1 : Nat))).move :: lineT r d (make r p (bOpt (opts r p (d + 1 : Nat))).move).1.next
theorem lineT_end {r : Rul} {d : Nat} {p : Pos} (h : (results r p).length = 0) : lineT r d p = [] := by
  cases d with
  | zero => rfl
  | succ d => rw [lineT, if_pos h]
structure Line (r : Rul) (p0 : Pos) (d0 : Int) (out : List Int) (p : Pos) (depth : Int) : Prop where
  ok : okP r p = true
  lo : 0 ≤ depth
  hi : depth ≤ 8
  sz : size r depth.toNat p ≤ 3000
  eq : out ++ lineT r depth.toNat p = lineT r d0.toNat p0
  ln : (out.length : Int) + depth = d0
theorem Line.zero {r : Rul} {p : Pos} {d : Int} (h : srchC r p d = 0) : Line r p d [] p d := by
  obtain ⟨a, b, c, e⟩ := srchC_ok h
  exact ⟨a, b, c, e, rfl, by simp⟩
theorem Line.end_ {r : Rul} {p0 p : Pos} {d0 d : Int} {out : List Int} (h : Line r p0 d0 out p d) (hd : (results r p).length = 0) : lineT r d0.toNat p0 = out := by
  have := h.eq; rw [lineT_end hd, List.append_nil] at this; exact this.symm
theorem Line.done {r : Rul} {p0 p : Pos} {d0 d : Int} {out : List Int} (h : Line r p0 d0 out p d) (hd : d ≤ 0) : lineT r d0.toNat p0 = out := by
  have := h.eq; rw [show d.toNat = 0 by omega, lineT, List.append_nil] at this; exact this.symm
theorem Line.step {r : Rul} {p0 p : Pos} {d0 d : Int} {out : List Int} (h : Line r p0 d0 out p d) (hd : 0 < d) (hl : (results r p).length ≠ 0) :
    Line r p0 d0 (out ++ [(bOpt (opts r p d)).move]) (make r p (bOpt (opts r p d)).move).1.next (d - 1) := by
  have hm := bOpt_make (depth := d) hl
  have e1 : d.toNat = (d - 1).toNat + 1 := by omega
  have e2 : (((d - 1).toNat + 1 : Nat) : Int) = d := by omega
  refine ⟨(make_ok hm.1).2.2.2.1, by omega, by have := h.hi; omega, ?_, ?_, ?_⟩
  · have := size_sub (d := (d - 1).toNat) hm.2
    rw [← e1] at this; have := h.sz; omega
  · have := h.eq
    rw [e1, lineT, if_neg hl, e2] at this
    rw [List.append_assoc]; exact this
  · have := h.ln; simp; omega
def second (m : Int) (s : Int) : List Opt → Int
  | [] => s
  | o :: l => second m (if o.move = m then s else if s < o.value then o.value else s) l
def turnP (r : Rul) (p : Pos) : Pos := ⟨p.pits.drop r.pits.toNat ++ p.pits.take r.pits.toNat, [nth p.stores 1, nth p.stores 0], 1 - p.player⟩
structure SmallP (p : Pos) : Prop where
  sp : p.pits.length ≤ 4194304
  ss : p.stores.length ≤ 4194304
theorem SmallP.zero : SmallP Pos.zero := ⟨by decide, by decide⟩
theorem SmallP.ok {r : Rul} {p : Pos} (h : okP r p = true) : SmallP p := ⟨(okP_len h).1, (okP_len h).2⟩
section
variable {α : Type} (f : Int → α → α) (sz : α → Int)
variable (hf : Int → α → Int)
def heldL : Int → List α → Int
  | k, [] => k
  | k, x :: l => if hf k x < 0 then -1 else heldL (hf k x) l
end
section
variable {α : Type}
theorem upto_step {a b : List α} {k : Nat} {x : α} (h : a.take k = b.take k) (ha : a[k]? = some x) (hb : b[k]? = some x) : a.take (k + 1) = b.take (k + 1) := by
  rw [List.take_add_one, List.take_add_one, h, ha, hb]
theorem upto_done {a b : List α} {k : Nat} (h : a.take k = b.take k) (ha : a.length ≤ k) (hb : b.length ≤ k) : a = b := by
  rwa [List.take_of_length_le ha, List.take_of_length_le hb] at h
theorem upto_ne {a b : List α} {k : Nat} {x y : α} (ha : a[k]? = some x) (hb : b[k]? = some y) (h : x ≠ y) : a ≠ b := by
  rintro rfl; rw [ha] at hb; cases hb; exact h rfl
end
def hO (k : Int) (x : Opt) : Int := if x.move ≠ k then -1 else if x.value ≠ k + 1 then -1 else k + 2
def hQ (k : Int) (p : Pos) : Int := if held p.pits k < 0 then -1 else if held p.stores (held p.pits k) < 0 then -1 else if p.player ≠ held p.stores (held p.pits k) then -1 else held p.stores (held p.pits k) + 1
def stdNames : List (List UInt8) := [[107, 97, 108, 97, 104], [109, 105, 110, 105], [111, 119, 97, 114, 101], [114, 101, 108, 97, 121]]
def cutG (g : Gam) (n : Nat) : Gam := ⟨g.rules, g.start, g.moves.take n, (playedP g).getD n Pos.zero, -1⟩
theorem cutG_now {g : Gam} {n : Nat} {y : Pos} (h : (playedP g)[n]? = some y) : (cutG g n).now = y := by simp [cutG, List.getD, h]
def undo (g : Gam) : Gam × Int := if okG g = true then (if g.moves.length = 0 ∨ 0 ≤ g.resigned then (Gam.zero, 6) else (cutG g ((g.moves.length : Int) - 1).toNat, 0)) else (Gam.zero, 1)
theorem undo_0 {g : Gam} (h : okG g = true) (h2 : ¬ (g.moves.length = 0 ∨ 0 ≤ g.resigned)) : undo g = (cutG g ((g.moves.length : Int) - 1).toNat, 0) := by unfold undo; rw [if_pos h, if_neg h2]
def Cut (g : Gam) (k : Nat) : Prop := ∀ j, j < k → endOf (cutG g j) = 0
theorem Cut.zero (g : Gam) : Cut g 0 := fun j h => by omega
theorem Cut.step {g : Gam} {k : Nat} (h : Cut g k) (h2 : endOf (cutG g k) = 0) : Cut g (k + 1) := fun j hj => by
  by_cases e : j = k
  · subst e; exact h2
  · exact h j (by omega)
theorem play_120 {g : Gam} {move : Int} (h : g.moves.length ≤ 120) (hz : (play g move).2 = 0) : (play g move).1.moves.length ≤ 120 := by
  by_cases h1 : 0 ≤ g.resigned
  · rw [play_6 h1] at hz; simp at hz
  by_cases h2 : g.moves.length = 120
  · rw [play_5 h1 h2] at hz; simp at hz
  by_cases h3 : (make g.rules g.now move).2 = 0
  · rw [play_0 h1 h2 h3]; simp; omega
  · rw [play_c h1 h2 h3] at hz; exact absurd hz h3
theorem play_len {g : Gam} {move : Int} (hz : (play g move).2 = 0) : (play g move).1.moves.length = g.moves.length + 1 := by
  by_cases h1 : 0 ≤ g.resigned
  · rw [play_6 h1] at hz; simp at hz
  by_cases h2 : g.moves.length = 120
  · rw [play_5 h1 h2] at hz; simp at hz
  by_cases h3 : (make g.rules g.now move).2 = 0
  · rw [play_0 h1 h2 h3]; simp
  · rw [play_c h1 h2 h3] at hz; exact absurd hz h3
def startP (r : Rul) : Pos := ⟨List.replicate (2 * r.pits).toNat r.seeds, [0, 0], 0⟩
theorem mul01 {a n : Int} (h0 : 0 ≤ a) (h1 : a = 0 ∨ a < 2) (n0 : 0 ≤ n) (n8 : n ≤ 8) : 0 ≤ a * n ∧ a * n ≤ n ∧ (a + 1) * n = a * n + n := by
  have h : a = 0 ∨ a = 1 := by omega
  rcases h with rfl | rfl <;> simp <;> omega
def legal (r : Rul) (p : Pos) : List Int := if okP r p = true then (results r p).map (·.move) else []
theorem legal_yes {r : Rul} {p : Pos} (h : okP r p = true) : legal r p = (results r p).map (·.move) := by unfold legal; rw [if_pos h]
theorem legal_no {r : Rul} {p : Pos} (h : okP r p = false) : legal r p = [] := by unfold legal; rw [if_neg (by simp [h])]
theorem legal_len (r : Rul) (p : Pos) : (legal r p).length ≤ 8 := by
  cases h : okP r p
  · rw [legal_no h]; simp
  · rw [legal_yes h, List.length_map]; exact results_8 h
theorem moves_step {l : List Res} {k : Nat} {y : Res} (h : l[k]? = some y) : (l.map (·.move)).take (k + 1) = (l.map (·.move)).take k ++ [y.move] := by
  rw [List.take_add_one, List.getElem?_map, h]; rfl
theorem play_pits {g : Gam} {move : Int} (h : 1 ≤ g.now.pits.length) (hz : (play g move).2 = 0) : 1 ≤ (play g move).1.now.pits.length := by
  by_cases h1 : 0 ≤ g.resigned
  · rw [play_6 h1] at hz; simp at hz
  by_cases h2 : g.moves.length = 120
  · rw [play_5 h1 h2] at hz; simp at hz
  by_cases h3 : (make g.rules g.now move).2 = 0
  · rw [play_0 h1 h2 h3]; have := okP_bd (make_ok h3).2.2.2.1; show 1 ≤ (make g.rules g.now move).1.next.pits.length; omega
  · rw [play_c h1 h2 h3] at hz; exact absurd hz h3
theorem play_stores {g : Gam} {move : Int} (h : g.now.stores.length = 2) (hz : (play g move).2 = 0) : (play g move).1.now.stores.length = 2 := by
  by_cases h1 : 0 ≤ g.resigned
  · rw [play_6 h1] at hz; simp at hz
  by_cases h2 : g.moves.length = 120
  · rw [play_5 h1 h2] at hz; simp at hz
  by_cases h3 : (make g.rules g.now move).2 = 0
  · rw [play_0 h1 h2 h3]; exact (okP_bd (make_ok h3).2.2.2.1).2.2.2.1
  · rw [play_c h1 h2 h3] at hz; exact absurd hz h3
def cmpL : List Int → List Int → Int
  | [], [] => 0
  | [], _ :: _ => -1
  | _ :: _, [] => 1
  | a :: x, b :: y => if a < b then -1 else if b < a then 1 else cmpL x y
theorem cmpL_lt {a b : List Int} {k : Nat} (h : cmpL (a.drop k) (b.drop k) = cmpL a b) (ha : k < a.length) (hb : k < b.length) (hl : nth a k < nth b k) : cmpL a b = -1 := by
  rw [← h, drop_nth ha, drop_nth hb, cmpL, if_pos hl]
theorem cmpL_gt {a b : List Int} {k : Nat} (h : cmpL (a.drop k) (b.drop k) = cmpL a b) (ha : k < a.length) (hb : k < b.length) (hl : nth b k < nth a k) : cmpL a b = 1 := by
  rw [← h, drop_nth ha, drop_nth hb, cmpL, if_neg (by omega), if_pos hl]
theorem cmpL_step {a b : List Int} {k : Nat} (h : cmpL (a.drop k) (b.drop k) = cmpL a b) (ha : k < a.length) (hb : k < b.length) (h1 : ¬ nth a k < nth b k) (h2 : ¬ nth b k < nth a k) : cmpL (a.drop (k + 1)) (b.drop (k + 1)) = cmpL a b := by
  rw [← h, drop_nth ha, drop_nth hb, cmpL, if_neg h1, if_neg h2]
theorem cmpL_end {a b : List Int} {k : Nat} (h : cmpL (a.drop k) (b.drop k) = cmpL a b) (hk : a.length ≤ k ∨ b.length ≤ k) (ha : k ≤ a.length) (hb : k ≤ b.length) : cmpL a b = if a.length < b.length then -1 else if b.length < a.length then 1 else 0 := by
  rw [← h]
  rcases Nat.lt_trichotomy a.length b.length with hl | hl | hl
  · rw [if_pos hl, List.drop_eq_nil_of_le (by omega), drop_nth (by omega)]; rfl
  · rw [if_neg (by omega), if_neg (by omega), List.drop_eq_nil_of_le (by omega), List.drop_eq_nil_of_le (by omega)]; rfl
  · rw [if_neg (by omega), if_pos hl, @List.drop_eq_nil_of_le _ b k (by omega), drop_nth (by omega)]; rfl
theorem cmpL_eq : ∀ {a b : List Int}, cmpL a b = 0 ↔ a = b
  | [], [] => by simp [cmpL]
  | [], _ :: _ => by simp [cmpL]
  | _ :: _, [] => by simp [cmpL]
  | a :: x, b :: y => by
    rw [cmpL]; split
    · rename_i h; simp; intro h2; omega
    · split
      · rename_i h; simp; intro h2; omega
      · rename_i h1 h2
        rw [cmpL_eq (a := x) (b := y)]
        have : a = b := by omega
        simp [this]
@[reducible] def posE (pits : List Int) : Pos := ⟨pits, [0, 0], 0⟩
def chAt (r : Rul) (p : Pos) (cs : List Cho) (k : Nat) : Bool :=
  (decide (k = 0) || decide ((cho cs (k - 1)).move < (cho cs k).move)) && decide ((make r p (cho cs k).move).2 = 0) && betw (cho cs k).games 1 1000000 && betw (cho cs k).score 0 (2 * (cho cs k).games)
def okCs (r : Rul) (p : Pos) (cs : List Cho) : Bool := (List.range cs.length).all (chAt r p cs)
def okE (r : Rul) (e : Ent) : Bool := okP r (posE e.pits) && decide (0 < e.choices.length) && okCs r (posE e.pits) e.choices
def entAt (r : Rul) (es : List Ent) (k : Nat) : Bool := (decide (k = 0) || decide (cmpL (ent es (k - 1)).pits (ent es k).pits < 0)) && okE r (ent es k)
def okB (b : Boo) : Bool := okR b.rules && decide (b.entries.length ≤ 200) && (List.range b.entries.length).all (entAt b.rules b.entries)
def AllB (f : Nat → Bool) (k : Nat) : Prop := ∀ i, i < k → f i = true
theorem AllB.zero (f : Nat → Bool) : AllB f 0 := fun i h => absurd h (by omega)
theorem AllB.step {f : Nat → Bool} {k : Nat} (h : AllB f k) (hk : f k = true) : AllB f (k + 1) := fun i hi => by
  by_cases e : i = k
  · rw [e]; exact hk
  · exact h i (by omega)
theorem all_yes {f : Nat → Bool} {n k : Nat} (h : AllB f k) (hk : n ≤ k) : (List.range n).all f = true := by
  rw [List.all_eq_true]; intro i hi; exact h i (by have := List.mem_range.1 hi; omega)
theorem all_no {f : Nat → Bool} {n k : Nat} (hk : k < n) (h : f k = false) : (List.range n).all f = false := by
  cases e : (List.range n).all f
  · rfl
  · rw [List.all_eq_true] at e; rw [e k (List.mem_range.2 hk)] at h; exact absurd h (by simp)
theorem all_at {f : Nat → Bool} {n k : Nat} (h : (List.range n).all f = true) (hk : k < n) : f k = true := by
  rw [List.all_eq_true] at h; exact h k (List.mem_range.2 hk)
theorem pred_nat {k : Nat} : ((k : Int) - 1).toNat = k - 1 := by omega
theorem prev_lt (k : Nat) (a b : Int) : (decide (k = 0) || decide (a < b)) = !(decide (0 < (k : Int)) && decide (b ≤ a)) := by
  by_cases hk : k = 0
  · subst hk; simp
  · have h1 : (0 : Int) < (k : Int) := by omega
    rw [decide_eq_false hk, decide_eq_true h1]
    by_cases hab : a < b
    · rw [decide_eq_true hab, decide_eq_false (by omega)]; rfl
    · rw [decide_eq_false hab, decide_eq_true (by omega)]; rfl
theorem chAt_eq (r : Rul) (p : Pos) (cs : List Cho) (k : Nat) : chAt r p cs k = !(((decide (0 < (k : Int)) && decide ((cho cs k).move ≤ (cho cs (((k : Int) - 1).toNat)).move) || !decide ((make r p (cho cs k).move).2 = 0)) || !betw (cho cs k).games 1 1000000) || !betw (cho cs k).score 0 (2 * (cho cs k).games)) := by
  unfold chAt
  rw [prev_lt, pred_nat]
  simp only [Bool.not_or, Bool.not_not]
theorem chAt_yes {r : Rul} {p : Pos} {cs : List Cho} {k : Nat} (h : (((decide (0 < (k : Int)) && decide ((cho cs k).move ≤ (cho cs (((k : Int) - 1).toNat)).move) || !decide ((make r p (cho cs k).move).2 = 0)) || !betw (cho cs k).games 1 1000000) || !betw (cho cs k).score 0 (2 * (cho cs k).games)) = false) : chAt r p cs k = true := by rw [chAt_eq, h]; rfl
theorem chAt_no {r : Rul} {p : Pos} {cs : List Cho} {k : Nat} (h : (((decide (0 < (k : Int)) && decide ((cho cs k).move ≤ (cho cs (((k : Int) - 1).toNat)).move) || !decide ((make r p (cho cs k).move).2 = 0)) || !betw (cho cs k).games 1 1000000) || !betw (cho cs k).score 0 (2 * (cho cs k).games)) = true) : chAt r p cs k = false := by rw [chAt_eq, h]; rfl
theorem chAt_prev {r : Rul} {p : Pos} {cs : List Cho} {k : Nat} (h : (decide (0 < (k : Int)) && decide ((cho cs k).move ≤ (cho cs (((k : Int) - 1).toNat)).move)) = true) : chAt r p cs k = false := chAt_no (by rw [h]; rfl)
def ch18 (cs : List Cho) (k : Nat) : Bool := ((decide (0 < (k : Int)) && decide ((cho cs k).move ≤ (cho cs (((k : Int) - 1).toNat)).move)) || !betw (cho cs k).games 1 1000000) || !betw (cho cs k).score 0 (2 * (cho cs k).games)
theorem chAt_18 {r : Rul} {p : Pos} {cs : List Cho} {k : Nat} (h : ch18 cs k = true) : chAt r p cs k = false := chAt_no (by
  unfold ch18 at h; revert h
  generalize (decide (0 < (k : Int)) && decide ((cho cs k).move ≤ (cho cs (((k : Int) - 1).toNat)).move)) = a
  generalize betw (cho cs k).games 1 1000000 = b
  generalize betw (cho cs k).score 0 (2 * (cho cs k).games) = c
  cases a <;> cases b <;> cases c <;> simp)
theorem chAt_21 {r : Rul} {p : Pos} {cs : List Cho} {k : Nat} (h1 : ¬ (make r p (cho cs k).move).2 = 0) : chAt r p cs k = false := chAt_no (by rw [decide_eq_false h1]; simp)
theorem chAt_all {r : Rul} {p : Pos} {cs : List Cho} {k : Nat} (h : ch18 cs k = false) (h1 : (make r p (cho cs k).move).2 = 0) : chAt r p cs k = true := chAt_yes (by
  rw [decide_eq_true h1]
  unfold ch18 at h; revert h
  generalize (decide (0 < (k : Int)) && decide ((cho cs k).move ≤ (cho cs (((k : Int) - 1).toNat)).move)) = a
  generalize betw (cho cs k).games 1 1000000 = b
  generalize betw (cho cs k).score 0 (2 * (cho cs k).games) = c
  cases a <;> cases b <;> cases c <;> simp)
theorem prev_lt0 (k : Nat) (c : Int) : (decide (k = 0) || decide (c < 0)) = !(decide (0 < (k : Int)) && decide (0 ≤ c)) := prev_lt k c 0
theorem entAt_eq (r : Rul) (es : List Ent) (k : Nat) : entAt r es k = !((decide (0 < (k : Int)) && decide (0 ≤ cmpL (ent es (((k : Int) - 1).toNat)).pits (ent es k).pits)) || !okE r (ent es k)) := by
  unfold entAt
  rw [prev_lt0, pred_nat]
  simp only [Bool.not_or, Bool.not_not]
theorem entAt_yes {r : Rul} {es : List Ent} {k : Nat} (h : ((decide (0 < (k : Int)) && decide (0 ≤ cmpL (ent es (((k : Int) - 1).toNat)).pits (ent es k).pits)) || !okE r (ent es k)) = false) : entAt r es k = true := by rw [entAt_eq, h]; rfl
theorem entAt_no {r : Rul} {es : List Ent} {k : Nat} (h : ((decide (0 < (k : Int)) && decide (0 ≤ cmpL (ent es (((k : Int) - 1).toNat)).pits (ent es k).pits)) || !okE r (ent es k)) = true) : entAt r es k = false := by rw [entAt_eq, h]; rfl
theorem entAt_yes' {r : Rul} {es : List Ent} {k : Nat} (h : (!okE r (ent es k) || (decide (0 < (k : Int)) && decide (0 ≤ cmpL (ent es (((k : Int) - 1).toNat)).pits (ent es k).pits))) = false) : entAt r es k = true := entAt_yes (by rw [Bool.or_comm]; exact h)
theorem entAt_no' {r : Rul} {es : List Ent} {k : Nat} (h : (!okE r (ent es k) || (decide (0 < (k : Int)) && decide (0 ≤ cmpL (ent es (((k : Int) - 1).toNat)).pits (ent es k).pits))) = true) : entAt r es k = false := entAt_no (by rw [Bool.or_comm]; exact h)
theorem okE_p {r : Rul} {e : Ent} (h : okP r (posE e.pits) = false ∨ e.choices.length = 0) : okE r e = false := by
  unfold okE
  rcases h with h | h
  · rw [h]; rfl
  · rw [h]; simp
theorem okE_cs {r : Rul} {e : Ent} (h1 : okP r (posE e.pits) = true) (h2 : e.choices.length ≠ 0) : okE r e = okCs r (posE e.pits) e.choices := by
  unfold okE; rw [h1, decide_eq_true (by omega)]; simp
theorem okE_parts {r : Rul} {e : Ent} (h : okE r e = true) : okP r (posE e.pits) = true ∧ 0 < e.choices.length ∧ okCs r (posE e.pits) e.choices = true := by
  unfold okE at h; simp only [Bool.and_eq_true, decide_eq_true_eq] at h; exact ⟨h.1.1, h.1.2, h.2⟩
theorem okB_r {b : Boo} (h : okR b.rules = false ∨ 200 < b.entries.length) : okB b = false := by
  unfold okB
  rcases h with h | h
  · rw [h]; rfl
  · rw [decide_eq_false (by omega)]; simp
theorem okB_es {b : Boo} (h1 : okR b.rules = true) (h2 : b.entries.length ≤ 200) : okB b = (List.range b.entries.length).all (entAt b.rules b.entries) := by
  unfold okB; rw [h1, decide_eq_true h2]; simp
theorem okB_parts {b : Boo} (h : okB b = true) : okR b.rules = true ∧ b.entries.length ≤ 200 ∧ (List.range b.entries.length).all (entAt b.rules b.entries) = true := by
  unfold okB at h; simp only [Bool.and_eq_true, decide_eq_true_eq] at h; exact ⟨h.1.1, h.1.2, h.2⟩
theorem okB_ent {b : Boo} (h : okB b = true) {k : Nat} (hk : k < b.entries.length) : okE b.rules (ent b.entries k) = true := by
  have := all_at (okB_parts h).2.2 hk
  unfold entAt at this; simp only [Bool.and_eq_true] at this; exact this.2
section
variable {α : Type}
end
theorem cho_set {cs : List Cho} {k : Nat} {y : Cho} (h : k < cs.length) : cho (cs.set k y) k = y := by simp [cho, List.getD, h]
theorem cho_ext {a b : Cho} (h1 : a.move = b.move) (h2 : a.games = b.games) (h3 : a.score = b.score) : a = b := by cases a; cases b; simp_all
theorem ent_ext {a b : Ent} (h1 : a.pits = b.pits) (h2 : a.choices = b.choices) : a = b := by cases a; cases b; simp_all
theorem boo_ext {a b : Boo} (h1 : a.rules = b.rules) (h2 : a.entries = b.entries) : a = b := by cases a; cases b; simp_all
def totE : List Ent → Nat
  | [] => 0
  | e :: es => e.pits.length + e.choices.length + totE es
theorem totE_app : ∀ (a b : List Ent), totE (a ++ b) = totE a + totE b
  | [], b => by simp [totE]
  | e :: a, b => by rw [List.cons_append, totE, totE_app a b, totE]; omega
theorem totE_le (es : List Ent) (i : Nat) : totE (es.take i) ≤ totE es := by
  conv => rhs; rw [← List.take_append_drop i es, totE_app]
  omega
theorem totE_mem {es : List Ent} {x : Ent} (h : x ∈ es) : x.pits.length + x.choices.length ≤ totE es := by
  induction es with
  | nil => simp at h
  | cons e es ih =>
    rcases List.mem_cons.1 h with rfl | h
    · rw [totE]; omega
    · have := ih h; rw [totE]; omega
theorem totE_small {es : List Ent} {n : Nat} (h : totE es ≤ n) : ∀ x ∈ es, x.pits.length ≤ n ∧ x.choices.length ≤ n := fun x hx => by have := totE_mem hx; omega
def hC (k : Int) (x : Cho) : Int := if x.move ≠ k then -1 else if x.games ≠ k + 1 then -1 else if x.score ≠ k + 2 then -1 else k + 3
def hE (k : Int) (e : Ent) : Int := if held e.pits k < 0 then -1 else if heldL hC (held e.pits k) e.choices < 0 then -1 else heldL hC (held e.pits k) e.choices
def newB (r : Rul) : Boo × Int := if okR r = true then (⟨r, []⟩, 0) else (Boo.zero, 1)
theorem newB_0 {r : Rul} (h : okR r = true) : newB r = (⟨r, []⟩, 0) := by unfold newB; rw [if_pos h]
theorem newB_1 {r : Rul} (h : okR r = false) : newB r = (Boo.zero, 1) := by unfold newB; rw [if_neg (by simp [h])]
theorem cmpL_neg : ∀ a b : List Int, cmpL a b = -cmpL b a
  | [], [] => rfl
  | [], _ :: _ => rfl
  | _ :: _, [] => rfl
  | a :: x, b :: y => by
    rw [cmpL, cmpL]
    by_cases h1 : a < b
    · rw [if_pos h1, if_neg (by omega), if_pos h1]
    · rw [if_neg h1]
      by_cases h2 : b < a
      · rw [if_pos h2, if_pos h2]; rfl
      · rw [if_neg h2, if_neg h2, if_neg h1]; exact cmpL_neg x y
theorem cmpL_trans : ∀ {a b c : List Int}, cmpL a b < 0 → cmpL b c < 0 → cmpL a c < 0
  | [], [], _, h, _ => by simp [cmpL] at h
  | _ :: _, [], _, h, _ => by simp [cmpL] at h
  | _, _ :: _, [], _, h => by simp [cmpL] at h
  | [], _ :: _, _ :: _, _, _ => by simp [cmpL]
  | a :: x, b :: y, c :: z, h1, h2 => by
    rw [cmpL] at h1 h2 ⊢
    by_cases e1 : a < b
    · by_cases e2 : b < c
      · rw [if_pos (by omega)]; omega
      · rw [if_neg e2] at h2
        by_cases e3 : c < b
        · rw [if_pos e3] at h2; omega
        · rw [if_pos (by omega)]; omega
    · rw [if_neg e1] at h1
      by_cases e4 : b < a
      · rw [if_pos e4] at h1; omega
      · rw [if_neg e4] at h1
        have : a = b := by omega
        subst this
        by_cases e2 : a < c
        · rw [if_pos e2]; omega
        · rw [if_neg e2] at h2 ⊢
          by_cases e3 : c < a
          · rw [if_pos e3] at h2; omega
          · rw [if_neg e3] at h2 ⊢; exact cmpL_trans h1 h2
def viewP (r : Rul) (p : Pos) : Pos := if p.player = 0 then p else turnP r p
theorem viewP_0 {r : Rul} {p : Pos} (h : p.player = 0) : viewP r p = p := by unfold viewP; rw [if_pos h]
theorem viewP_1 {r : Rul} {p : Pos} (h : ¬ p.player = 0) : viewP r p = turnP r p := by unfold viewP; rw [if_neg h]
def lookE : List Ent → List Int → List Cho
  | [], _ => []
  | e :: es, pits => if e.pits = pits then e.choices else lookE es pits
def findE : List Ent → List Int → Nat
  | [], _ => 0
  | e :: es, pits => if 0 ≤ cmpL e.pits pits then 0 else findE es pits + 1
theorem findE_step {es : List Ent} {pits : List Int} {k : Nat} (h : k + findE (es.drop k) pits = findE es pits) (hk : k < es.length) (hn : ¬ 0 ≤ cmpL (ent es k).pits pits) : k + 1 + findE (es.drop (k + 1)) pits = findE es pits := by
  rw [drop_some (ent_get hk), findE, if_neg hn] at h; omega
theorem findE_hit {es : List Ent} {pits : List Int} {k : Nat} (h : k + findE (es.drop k) pits = findE es pits) (hk : k < es.length) (hn : 0 ≤ cmpL (ent es k).pits pits) : findE es pits = k := by
  rw [← h, drop_some (ent_get hk), findE, if_pos hn]; rfl
theorem findE_end {es : List Ent} {pits : List Int} {k : Nat} (h : k + findE (es.drop k) pits = findE es pits) (hk : es.length ≤ k) (hk2 : k ≤ es.length) : findE es pits = es.length := by
  rw [← h, List.drop_eq_nil_of_le hk]; show k + 0 = _; omega
def hasE (es : List Ent) (pits : List Int) : Bool := decide (findE es pits < es.length) && decide (cmpL (ent es (findE es pits)).pits pits = 0)
theorem hasE_hit {es : List Ent} {pits : List Int} {k : Nat} (h : findE es pits = k) (hk : k < es.length) : hasE es pits = decide (cmpL (ent es k).pits pits = 0) := by
  unfold hasE; rw [h, decide_eq_true hk]; simp
theorem hasE_end {es : List Ent} {pits : List Int} (h : findE es pits = es.length) : hasE es pits = false := by
  unfold hasE; rw [h]; simp
theorem hasE_lt {es : List Ent} {pits : List Int} (h : hasE es pits = true) : findE es pits < es.length := by
  unfold hasE at h; simp only [Bool.and_eq_true, decide_eq_true_eq] at h; exact h.1
theorem findE_le (es : List Ent) (pits : List Int) : findE es pits ≤ es.length := by
  induction es with
  | nil => simp [findE]
  | cons e es ih => rw [findE]; split <;> simp; exact ih
def SortE (es : List Ent) : Prop := ∀ i j, i < j → j < es.length → cmpL (ent es i).pits (ent es j).pits < 0
theorem sortE_of {r : Rul} {es : List Ent} (h : (List.range es.length).all (entAt r es) = true) : SortE es := by
  intro i j hij hj
  induction j with
  | zero => omega
  | succ j ih =>
    have h1 : cmpL (ent es j).pits (ent es (j + 1)).pits < 0 := by
      have := all_at h hj
      unfold entAt at this
      simp only [Bool.and_eq_true, Bool.or_eq_true, decide_eq_true_eq] at this
      rcases this.1 with h0 | h0
      · omega
      · exact h0
    by_cases e : i = j
    · rw [e]; exact h1
    · exact cmpL_trans (ih (by omega) (by omega)) h1
theorem SortE.tail {e : Ent} {es : List Ent} (h : SortE (e :: es)) : SortE es := fun i j hij hj => by
  have := h (i + 1) (j + 1) (by omega) (by simp; omega)
  simpa [ent] using this
theorem lookE_ok {r : Rul} {es : List Ent} {pits : List Int} (h : ∀ x ∈ es, okE r x = true) : lookE es pits = [] ∨ ∃ x ∈ es, x.pits = pits ∧ lookE es pits = x.choices := by
  induction es with
  | nil => exact .inl rfl
  | cons e es ih =>
    rw [lookE]; split
    · rename_i he; exact .inr ⟨e, by simp, he, rfl⟩
    · rcases ih fun x hx => h x (by simp [hx]) with h1 | ⟨x, h1, h2⟩
      · exact .inl h1
      · exact .inr ⟨x, by simp [h1], h2⟩
theorem okB_all {b : Boo} (h : okB b = true) : ∀ x ∈ b.entries, okE b.rules x = true := fun x hx => by
  obtain ⟨i, hi⟩ := List.mem_iff_getElem?.1 hx
  have hil := (List.getElem?_eq_some_iff.1 hi).1
  have := okB_ent h hil
  rwa [show ent b.entries i = x by simp [ent, List.getD, hi]] at this
theorem okB_sort {b : Boo} (h : okB b = true) : SortE b.entries := sortE_of (okB_parts h).2.2
def ChoB (l : List Cho) : Prop := ∀ x ∈ l, 1 ≤ x.games ∧ x.games ≤ 1000000 ∧ 0 ≤ x.score ∧ x.score ≤ 2000000
theorem okCs_b {r : Rul} {p : Pos} {cs : List Cho} (h : okCs r p cs = true) : ChoB cs := fun x hx => by
  obtain ⟨i, hi⟩ := List.mem_iff_getElem?.1 hx
  have hil := (List.getElem?_eq_some_iff.1 hi).1
  have := all_at h hil
  unfold chAt at this
  simp only [Bool.and_eq_true] at this
  rw [show cho cs i = x by simp [cho, List.getD, hi]] at this
  have h1 := betw_iff.1 this.1.2
  have h2 := betw_iff.1 this.2
  omega
theorem lookE_b {b : Boo} (h : okB b = true) (pits : List Int) : ChoB (lookE b.entries pits) := by
  rcases lookE_ok (pits := pits) (okB_all h) with h1 | ⟨x, h1, _, h2⟩
  · rw [h1]; exact fun _ h => by simp at h
  · rw [h2]; exact okCs_b (okE_parts (okB_all h x h1)).2.2
def okV (r : Rul) (p : Pos) : Prop := okP r p = true ∨ (p.player = 0 ∧ p.pits.length ≤ 4194304 ∧ p.stores.length ≤ 4194304)
theorem okV_len {r : Rul} {p : Pos} (h : okV r p) : p.pits.length ≤ 4194304 ∧ p.stores.length ≤ 4194304 := by
  rcases h with h | h
  · have := okP_bd h; omega
  · exact h.2
theorem okV_pl {r : Rul} {p : Pos} (h : okV r p) : 0 ≤ p.player ∧ p.player ≤ 1 := by
  rcases h with h | h
  · have := okP_bd h; omega
  · omega
theorem okV_turn {r : Rul} {p : Pos} (h : okV r p) (h0 : ¬ p.player = 0) : okP r p = true := by
  rcases h with h | h
  · exact h
  · exact absurd h.1 h0
end Go.Proofs.YtcmfnlleikcpnaaGreat.M
namespace Go.Proofs.YtcmfnlleikcpnaaGreat
open Go.RowKit
def RX (w : World) (R : Value → Prop) (e : Ending) (w' : World) : Prop := ∃ v, e = .returned v ∧ R v ∧ Ext w w'
def RetX (P : Program) (f : FuncId) (args : List Value) (w : World) (R : Value → Prop) : Prop := Calls P f args.toArray w (RX w R)
section
variable {P : Program} {n lo : Nat} {B : List Nat} {Q : Exit → Act → World → Prop} {cs : List Code} {K : Act → World → Prop} {ops : Array Oper} {rest : List Oper} {l : Fr} {os os' os1 : List Own} {u : World} {ty : TypeId} {pos : String} {af : Array Edge} {gd : Option (Nat × Bool)} {dst : Option Tmp} {v : Value} {d : Nat}
theorem e_callX {f : FuncId} {xs : List Operand} {ts : Array TypeId} {vs : List Value} {R : World → Value → Prop} {R' : Value → Prop} (hf : goodF P f = true) (hx : opds l xs = some vs) (hc : ∀ w, St lo B u w os → RetX P f vs w (R w)) (hk : ∀ w v, St lo B u w os → R w v → R' v) :
    OpE P n lo B l os u ⟨dst, .call { callee := .value (.func f), args := xs.toArray, argTypes := ts }, ty, pos, af, gd⟩ true (fun v' os' u' => R' v' ∧ os' = os ∧ u = u') := fun a w ha hw K Q hq => by
  unfold Oper.wp
  rw [run_call hf ha hx, Oper.upon_enter]
  refine Calls.mono (hc w hw) fun e w' h => ?_
  obtain ⟨v, rfl, hR, hxt⟩ := h
  exact hq v _ u w' ⟨hk w v hw hR, rfl, rfl⟩ (Up.refl lo u) (hw.call hxt) (fun _ => hxt)
theorem zxc {f : FuncId} {xs : List Operand} {ts : Array TypeId} {vs : List Value} {R : World → Value → Prop} (R' : Value → Prop) [hf : FnI P f] (hx : opds l xs = some vs) (hc : ∀ w, St lo B u w os → RetX P f vs w (R w)) (hk : ∀ w v, St lo B u w os → R w v → R' v)
    (k : ∀ v, R' v → JL P n lo B K ops rest ((d, v) :: l) os u) (hn : Nat.blt d n = true := by rfl) :
    JL P n lo B K ops (⟨some d, .call { callee := .value (.func f), args := xs.toArray, argTypes := ts }, ty, pos, af, none⟩ :: rest) l os u := JL.e (e_callX hf.h hx hc hk) (by rintro v _ _ ⟨h, rfl, rfl⟩ _; exact k v h) rfl rfl hn
theorem zX {fn : Func} {R : Value → Prop} {w₀ : World} {rs : List ResultVar} {vs : List Value} (x : Up w₀.heap.size w₀ u) (h : R v) (hq : RetQ P fn (RX w₀ R) Q := by exact rq_) (hr : fn.results = rs.toArray := by rfl) (hv : ResOk P n w₀.heap.size [] l os u rs vs := by exact rs_) (ho : OutV vs v := by exact ov_) : Js P n w₀.heap.size [] Q (.ret :: cs) l os u :=
  Js.ret hr hq.eq hv fun w hw => by rw [ho.eq]; exact ⟨v, rfl, h, hw.ext x⟩
end
end Go.Proofs.YtcmfnlleikcpnaaGreat
namespace Go.Proofs.YtcmfnlleikcpnaaGreat.M
theorem hasE_iff {es : List Ent} {pits : List Int} : hasE es pits = true ↔ findE es pits < es.length ∧ (ent es (findE es pits)).pits = pits := by
  unfold hasE
  simp only [Bool.and_eq_true, decide_eq_true_eq]
  constructor
  · rintro ⟨a, b⟩; exact ⟨a, cmpL_eq.1 b⟩
  · rintro ⟨a, b⟩; exact ⟨a, cmpL_eq.2 b⟩
theorem hasE_len {es : List Ent} {pits : List Int} {k : Nat} (h : findE es pits = k) (hk : es.length ≤ k) : ¬ hasE es pits = true := fun h2 => by have := (hasE_iff.1 h2).1; omega
theorem hasE_ne {es : List Ent} {pits : List Int} {k : Nat} (h : findE es pits = k) (hk : ¬ (ent es k).pits = pits) : ¬ hasE es pits = true := fun h2 => hk (h ▸ (hasE_iff.1 h2).2)
theorem hasE_yes {es : List Ent} {pits : List Int} {k : Nat} (h : findE es pits = k) (hk : k < es.length) (he : (ent es k).pits = pits) : hasE es pits = true := hasE_iff.2 (by rw [h]; exact ⟨hk, he⟩)
def findC : List Cho → Int → Nat
  | [], _ => 0
  | c :: cs, mv => if mv ≤ c.move then 0 else 1 + findC cs mv
theorem findC_step {cs : List Cho} {mv : Int} {k : Nat} (h : k + findC (cs.drop k) mv = findC cs mv) (hk : k < cs.length) (hn : (cho cs k).move < mv) : k + 1 + findC (cs.drop (k + 1)) mv = findC cs mv := by
  rw [← h, List.drop_eq_getElem_cons hk, findC, if_neg (by simp [cho, List.getD, hk] at hn; omega)]; omega
theorem findC_hit {cs : List Cho} {mv : Int} {k : Nat} (h : k + findC (cs.drop k) mv = findC cs mv) (hk : k < cs.length) (hn : ¬ (cho cs k).move < mv) : findC cs mv = k := by
  rw [← h, List.drop_eq_getElem_cons hk, findC, if_pos (by simp [cho, List.getD, hk] at hn; omega)]; omega
theorem findC_end {cs : List Cho} {mv : Int} {k : Nat} (h : k + findC (cs.drop k) mv = findC cs mv) (hk : cs.length ≤ k) : findC cs mv = k := by
  rw [← h, List.drop_eq_nil_of_le hk, findC]; omega
def addC (cs : List Cho) (c : Cho) : List Cho :=
  if findC cs c.move < cs.length ∧ (cho cs (findC cs c.move)).move = c.move then cs.set (findC cs c.move) ⟨c.move, (cho cs (findC cs c.move)).games + c.games, (cho cs (findC cs c.move)).score + c.score⟩
  else cs.take (findC cs c.move) ++ [c] ++ cs.drop (findC cs c.move)
theorem addC_yes {cs : List Cho} {c : Cho} {k : Nat} (h : findC cs c.move = k) (hk : k < cs.length) (hm : (cho cs k).move = c.move) : addC cs c = cs.set k ⟨(cho cs k).move, (cho cs k).games + c.games, (cho cs k).score + c.score⟩ := by
  unfold addC; rw [h, if_pos ⟨hk, hm⟩, hm]
theorem addC_no {cs : List Cho} {c : Cho} {k : Nat} (h : findC cs c.move = k) (hn : ¬ (k < cs.length ∧ (cho cs k).move = c.move)) : addC cs c = cs.take k ++ [c] ++ cs.drop k := by
  unfold addC; rw [h, if_neg hn]
def addE (es : List Ent) (pits : List Int) (c : Cho) : List Ent :=
  if hasE es pits = true then es.set (findE es pits) ⟨pits, addC (ent es (findE es pits)).choices c⟩ else es.take (findE es pits) ++ [⟨pits, [c]⟩] ++ es.drop (findE es pits)
theorem ent_mid (es : List Ent) (x : Ent) {k : Nat} (hk : k ≤ es.length) : ent (es.take k ++ [x] ++ es.drop k) k = x := by
  have h : (es.take k ++ [x]).length = k + 1 := by simp; omega
  have h2 : (es.take k).length = k := by simp; omega
  simp [ent, List.getD, List.getElem?_append, h2]
theorem cho_mid (cs : List Cho) (x : Cho) {k : Nat} (hk : k ≤ cs.length) : cho (cs.take k ++ [x] ++ cs.drop k) k = x := by
  have h2 : (cs.take k).length = k := by simp; omega
  simp [cho, List.getD, List.getElem?_append, h2]
theorem set_mid {α : Type} (xs : List α) (x y : α) {k : Nat} (hk : k ≤ xs.length) : (xs.take k ++ [x] ++ xs.drop k).set k y = xs.take k ++ [y] ++ xs.drop k := by
  have h2 : (xs.take k).length = k := by simp; omega
  rw [List.append_assoc, List.set_append_right _ _ (by omega), h2, Nat.sub_self, List.append_assoc]; rfl
def atE (es : List Ent) (pits : List Int) : List Ent := if hasE es pits = true then es else es.take (findE es pits) ++ [⟨pits, []⟩] ++ es.drop (findE es pits)
theorem addC_nil (c : Cho) : addC [] c = [c] := by simp [addC, findC]
theorem addE_at {es ES : List Ent} {pits : List Int} {c : Cho} {k : Nat} (h : findE es pits = k) (hE : ES = atE es pits) : ES.set k ⟨(ent ES k).pits, addC (ent ES k).choices c⟩ = addE es pits c := by
  subst h; subst hE
  unfold atE addE
  by_cases hh : hasE es pits = true
  · rw [if_pos hh, if_pos hh, (hasE_iff.1 hh).2]
  · rw [if_neg hh, if_neg hh, ent_mid _ _ (findE_le es pits), set_mid _ _ _ (findE_le es pits), addC_nil]
theorem atE_yes {es : List Ent} {pits : List Int} (h : hasE es pits = true) : es = atE es pits := by unfold atE; rw [if_pos h]
theorem atE_no {es : List Ent} {pits : List Int} {k : Nat} (hk : findE es pits = k) (h : ¬ hasE es pits = true) : es.take k ++ [⟨pits, []⟩] ++ es.drop k = atE es pits := by unfold atE; rw [if_neg h, hk]
theorem bump_yes {cs : List Cho} {c : Cho} {j : Nat} (hj : j < cs.length) (h : addC cs c = cs.set j ⟨(cho cs j).move, (cho cs j).games + c.games, (cho cs j).score + c.score⟩) :
    (cs.set j ⟨(cho cs j).move, (cho cs j).games + c.games, (cho cs j).score⟩).set j ⟨(cho (cs.set j ⟨(cho cs j).move, (cho cs j).games + c.games, (cho cs j).score⟩) j).move, (cho (cs.set j ⟨(cho cs j).move, (cho cs j).games + c.games, (cho cs j).score⟩) j).games, (cho (cs.set j ⟨(cho cs j).move, (cho cs j).games + c.games, (cho cs j).score⟩) j).score + c.score⟩ = addC cs c := by
  rw [cho_set hj, List.set_set, h]
theorem bump_no {cs : List Cho} {c : Cho} {j : Nat} (hj : j ≤ cs.length) (h : addC cs c = cs.take j ++ [c] ++ cs.drop j) :
    ((cs.take j ++ ([Cho.mk c.move 0 0] ++ cs.drop j)).set j ⟨(cho (cs.take j ++ ([Cho.mk c.move 0 0] ++ cs.drop j)) j).move, (cho (cs.take j ++ ([Cho.mk c.move 0 0] ++ cs.drop j)) j).games + c.games, (cho (cs.take j ++ ([Cho.mk c.move 0 0] ++ cs.drop j)) j).score⟩).set j ⟨(cho ((cs.take j ++ ([Cho.mk c.move 0 0] ++ cs.drop j)).set j ⟨(cho (cs.take j ++ ([Cho.mk c.move 0 0] ++ cs.drop j)) j).move, (cho (cs.take j ++ ([Cho.mk c.move 0 0] ++ cs.drop j)) j).games + c.games, (cho (cs.take j ++ ([Cho.mk c.move 0 0] ++ cs.drop j)) j).score⟩) j).move, (cho ((cs.take j ++ ([Cho.mk c.move 0 0] ++ cs.drop j)).set j ⟨(cho (cs.take j ++ ([Cho.mk c.move 0 0] ++ cs.drop j)) j).move, (cho (cs.take j ++ ([Cho.mk c.move 0 0] ++ cs.drop j)) j).games + c.games, (cho (cs.take j ++ ([Cho.mk c.move 0 0] ++ cs.drop j)) j).score⟩) j).games, (cho ((cs.take j ++ ([Cho.mk c.move 0 0] ++ cs.drop j)).set j ⟨(cho (cs.take j ++ ([Cho.mk c.move 0 0] ++ cs.drop j)) j).move, (cho (cs.take j ++ ([Cho.mk c.move 0 0] ++ cs.drop j)) j).games + c.games, (cho (cs.take j ++ ([Cho.mk c.move 0 0] ++ cs.drop j)) j).score⟩) j).score + c.score⟩ = addC cs c := by
  have e : cs.take j ++ ([Cho.mk c.move 0 0] ++ cs.drop j) = cs.take j ++ [Cho.mk c.move 0 0] ++ cs.drop j := by rw [List.append_assoc]
  have hl : j < (cs.take j ++ [Cho.mk c.move 0 0] ++ cs.drop j).length := by simp; omega
  rw [e, cho_set hl, List.set_set, cho_mid _ _ hj, set_mid _ _ _ hj, h]
  simp
def EB (n : Int) (es : List Ent) : Prop := ∀ x ∈ es, ∀ y ∈ x.choices, 0 ≤ y.games ∧ y.games ≤ n ∧ 0 ≤ y.score ∧ y.score ≤ n
theorem EB.mono {m n : Int} {es : List Ent} (h : EB m es) (hm : m ≤ n) : EB n es := fun x hx y hy => by have := h x hx y hy; omega
theorem EB.at_ {n : Int} {es : List Ent} {pits : List Int} (h : EB n es) : EB n (atE es pits) := fun x hx y hy => by
  unfold atE at hx
  split at hx
  · exact h x hx y hy
  · simp only [List.append_assoc, List.mem_append, List.mem_singleton] at hx
    rcases hx with hx | rfl | hx
    · exact h x (List.mem_of_mem_take hx) y hy
    · simp at hy
    · exact h x (List.mem_of_mem_drop hx) y hy
theorem addC_mem {cs : List Cho} {c y : Cho} (hy : y ∈ addC cs c) : y ∈ cs ∨ y = c ∨ ∃ x ∈ cs, y = ⟨c.move, x.games + c.games, x.score + c.score⟩ := by
  unfold addC at hy
  split at hy
  · rename_i h
    rcases List.mem_or_eq_of_mem_set hy with h2 | h2
    · exact .inl h2
    · exact .inr (.inr ⟨_, cho_mem h.1, h2⟩)
  · simp only [List.append_assoc, List.mem_append, List.mem_singleton] at hy
    rcases hy with hy | hy | hy
    · exact .inl (List.mem_of_mem_take hy)
    · exact .inr (.inl hy)
    · exact .inl (List.mem_of_mem_drop hy)
theorem addC_len (cs : List Cho) (c : Cho) : (addC cs c).length ≤ cs.length + 1 := by
  unfold addC; split
  · rw [List.length_set]; omega
  · simp; omega
theorem addE_mem {es : List Ent} {pits : List Int} {c : Cho} {x : Ent} (hx : x ∈ addE es pits c) : x ∈ es ∨ x = ⟨pits, [c]⟩ ∨ ∃ y ∈ es, x = ⟨pits, addC y.choices c⟩ := by
  unfold addE at hx
  split at hx
  · rename_i h
    rcases List.mem_or_eq_of_mem_set hx with h2 | h2
    · exact .inl h2
    · exact .inr (.inr ⟨_, ent_mem (hasE_iff.1 h).1, h2⟩)
  · simp only [List.append_assoc, List.mem_append, List.mem_singleton] at hx
    rcases hx with hx | hx | hx
    · exact .inl (List.mem_of_mem_take hx)
    · exact .inr (.inl hx)
    · exact .inl (List.mem_of_mem_drop hx)
theorem EB.add {m n : Int} {es : List Ent} {pits : List Int} {c : Cho} (h : EB n es) (h0 : 0 ≤ c.games) (h1 : c.games ≤ m) (h2 : 0 ≤ c.score) (h3 : c.score ≤ m) (hn : 0 ≤ n) : EB (n + m) (addE es pits c) := fun x hx y hy => by
  rcases addE_mem hx with hx | rfl | ⟨z, hz, rfl⟩
  · have := h x hx y hy; omega
  · simp at hy; subst hy; omega
  · rcases addC_mem hy with hy | rfl | ⟨w, hw, rfl⟩
    · have := h z hz y hy; omega
    · omega
    · have := h z hz w hw; simp only; omega
theorem takeE {es : List Ent} {k : Nat} (hk : k < es.length) : es.take (k + 1) = es.take k ++ [⟨(ent es k).pits, (ent es k).choices⟩] := by rw [List.take_add_one, ent_get hk]; rfl
def SzE (n : Nat) (es : List Ent) : Prop := ∀ x ∈ es, x.pits.length ≤ n ∧ x.choices.length ≤ n
theorem SzE.mono {m n : Nat} {es : List Ent} (h : SzE m es) (hm : m ≤ n) : SzE n es := fun x hx => by have := h x hx; omega
theorem SzE.at_ {n : Nat} {es : List Ent} {pits : List Int} (h : SzE n es) (hp : pits.length ≤ n) : SzE n (atE es pits) := fun x hx => by
  unfold atE at hx
  split at hx
  · exact h x hx
  · simp only [List.append_assoc, List.mem_append, List.mem_singleton] at hx
    rcases hx with hx | rfl | hx
    · exact h x (List.mem_of_mem_take hx)
    · exact ⟨hp, by simp⟩
    · exact h x (List.mem_of_mem_drop hx)
theorem SzE.add {n : Nat} {es : List Ent} {pits : List Int} {c : Cho} (h : SzE n es) (hp : pits.length ≤ n + 1) : SzE (n + 1) (addE es pits c) := fun x hx => by
  rcases addE_mem hx with hx | rfl | ⟨z, hz, rfl⟩
  · have := h x hx; omega
  · exact ⟨hp, by simp⟩
  · exact ⟨hp, by have := addC_len z.choices c; have := h z hz; simp only; omega⟩
theorem addE_len (es : List Ent) (pits : List Int) (c : Cho) : (addE es pits c).length ≤ es.length + 1 := by
  unfold addE; split
  · rw [List.length_set]; omega
  · simp; omega
def addAll (es : List Ent) (pits : List Int) (cs : List Cho) : List Ent := cs.foldl (fun es c => addE es pits c) es
def mergeE (es es2 : List Ent) : List Ent := es2.foldl (fun es e => addAll es e.pits e.choices) es
theorem addAll_step {es : List Ent} {pits : List Int} {cs : List Cho} {j : Nat} (hj : j < cs.length) : addAll es pits (cs.take (j + 1)) = addE (addAll es pits (cs.take j)) pits (cho cs j) := by
  unfold addAll; rw [List.take_add_one, cho_get hj]; simp
theorem mergeE_step {es es2 : List Ent} {k : Nat} (hk : k < es2.length) : mergeE es (es2.take (k + 1)) = addAll (mergeE es (es2.take k)) (ent es2 k).pits (ent es2 k).choices := by
  unfold mergeE; rw [List.take_add_one, ent_get hk]; simp
def cntE : List Ent → Nat
  | [] => 0
  | e :: es => e.choices.length + cntE es
theorem cntE_app : ∀ (a b : List Ent), cntE (a ++ b) = cntE a + cntE b
  | [], b => by simp [cntE]
  | e :: a, b => by rw [List.cons_append, cntE, cntE_app a b, cntE]; omega
theorem cntE_step {es : List Ent} {k : Nat} (hk : k < es.length) : cntE (es.take (k + 1)) = cntE (es.take k) + (ent es k).choices.length := by
  rw [List.take_add_one, ent_get hk, cntE_app]; simp [cntE]
theorem cntE_tot : ∀ es : List Ent, cntE es ≤ totE es
  | [] => by simp [cntE]
  | e :: es => by have := cntE_tot es; simp only [cntE, totE]; omega
theorem cntE_take (es : List Ent) (k : Nat) : cntE (es.take k) ≤ totE es := by have := cntE_tot (es.take k); have := totE_le es k; omega
structure MI (n : Nat) (es : List Ent) : Prop where
  len : es.length ≤ 1048576 + n
  sz : SzE (1048576 + n) es
  eb : EB (2000000 * (n + 1)) es
theorem MI.step {n : Nat} {es : List Ent} {pits : List Int} {c : Cho} (h : MI n es) (hp : pits.length ≤ 1048576) (h0 : 0 ≤ c.games) (h1 : c.games ≤ 2000000) (h2 : 0 ≤ c.score) (h3 : c.score ≤ 2000000) : MI (n + 1) (addE es pits c) := by
  refine ⟨?_, h.sz.add (by omega), ?_⟩
  · have := addE_len es pits c; have := h.len; omega
  · have := EB.add (pits := pits) h.eb h0 h1 h2 h3 (by omega)
    refine this.mono ?_
    push_cast
    omega
theorem MI.req {n : Nat} {es : List Ent} (h : MI n es) (hn : n ≤ 1048576) : es.length ≤ 4194303 ∧ SzE 4194304 es ∧ EB 1000000000000000 es :=
  ⟨by have := h.len; omega, h.sz.mono (by omega), h.eb.mono (by omega)⟩
theorem EB_ok {b : Boo} (h : okB b = true) : EB 2000000 b.entries := fun x hx y hy => by
  have h1 := lookE_b h x.pits
  have h2 : ChoB x.choices := by
    have := okB_all h x hx
    unfold okE at this
    simp only [Bool.and_eq_true] at this
    exact okCs_b (by first | exact this.2 | exact this.1.2 | exact this.2.2)
  have := h2 y hy
  omega
theorem MI_0 {b : Boo} (h : okB b = true) (hl : b.entries.length + totE b.entries ≤ 1048576) : MI 0 b.entries :=
  ⟨by omega, fun x hx => by have := totE_mem hx; omega, (EB_ok h).mono (by omega)⟩
def mrgB (a b : Boo) : Boo := ⟨a.rules, mergeE a.entries b.entries⟩
def merge (a b : Boo) : Boo × Int :=
  if okB a = true ∧ okB b = true then (if a.rules = b.rules then (if okB (mrgB a b) = true then (mrgB a b, 0) else (Boo.zero, 5)) else (Boo.zero, 6)) else (Boo.zero, 1)
theorem merge_1 {a b : Boo} (h : ¬ (okB a = true ∧ okB b = true)) : merge a b = (Boo.zero, 1) := by unfold merge; rw [if_neg h]
theorem merge_6 {a b : Boo} (h : okB a = true ∧ okB b = true) (h2 : ¬ a.rules = b.rules) : merge a b = (Boo.zero, 6) := by unfold merge; rw [if_pos h, if_neg h2]
theorem merge_5 {a b : Boo} (h : okB a = true ∧ okB b = true) (h2 : a.rules = b.rules) (h3 : ¬ okB (mrgB a b) = true) : merge a b = (Boo.zero, 5) := by unfold merge; rw [if_pos h, if_pos h2, if_neg h3]
theorem merge_0 {a b : Boo} (h : okB a = true ∧ okB b = true) (h2 : a.rules = b.rules) (h3 : okB (mrgB a b) = true) : merge a b = (mrgB a b, 0) := by unfold merge; rw [if_pos h, if_pos h2, if_pos h3]
theorem cntE_set {es : List Ent} {k : Nat} {x : Ent} (hk : k < es.length) : cntE (es.set k x) + (ent es k).choices.length = cntE es + x.choices.length := by
  have e1 : es.set k x = es.take k ++ ([x] ++ es.drop (k + 1)) := by rw [List.set_eq_take_append_cons_drop, if_pos hk]; rfl
  have e2 : es = es.take k ++ ([ent es k] ++ es.drop (k + 1)) := by
    conv => lhs; rw [← List.take_append_drop k es, List.drop_eq_getElem_cons hk]
    simp [ent, List.getD, hk]
  rw [e1, cntE_app, cntE_app]
  conv => rhs; rw [e2, cntE_app, cntE_app]
  simp only [cntE]
  omega
theorem cntE_add (es : List Ent) (pits : List Int) (c : Cho) : cntE (addE es pits c) ≤ cntE es + 1 := by
  unfold addE
  split
  · rename_i h
    have h1 := cntE_set (x := ⟨pits, addC (ent es (findE es pits)).choices c⟩) (hasE_iff.1 h).1
    have h2 := addC_len (ent es (findE es pits)).choices c
    simp only at h1
    omega
  · rw [cntE_app, cntE_app]
    have e : cntE es = cntE (es.take (findE es pits)) + cntE (es.drop (findE es pits)) := by rw [← cntE_app, List.take_append_drop]
    simp only [cntE, List.length_singleton]
    omega
def sumP : List Ent → Nat
  | [] => 0
  | e :: es => e.pits.length + sumP es
theorem totE_sum : ∀ es : List Ent, totE es = sumP es + cntE es
  | [] => rfl
  | e :: es => by rw [totE, sumP, cntE, totE_sum es]; omega
theorem sumP_le {n : Nat} : ∀ es : List Ent, (∀ x ∈ es, x.pits.length ≤ n) → sumP es ≤ es.length * n
  | [], _ => by simp [sumP]
  | e :: es, h => by
    have h1 := sumP_le es (fun x hx => h x (by simp [hx]))
    have h2 := h e (by simp)
    rw [sumP, List.length_cons, Nat.succ_mul]; omega
theorem okB_sum {b : Boo} (h : okB b = true) : b.entries.length + sumP b.entries ≤ 200 + 200 * 64 := by
  have h1 := (okB_parts h).2.1
  have h2 := sumP_le (n := 64) b.entries (fun x hx => by
    have h3 := okB_all h x hx
    unfold okE at h3
    simp only [Bool.and_eq_true] at h3
    obtain ⟨h4, h5, h6, _⟩ := okP_bd h3.1.1
    have e : (posE x.pits).pits = x.pits := rfl
    rw [e] at h6
    omega)
  have h3 : b.entries.length * 64 ≤ 200 * 64 := Nat.mul_le_mul_right 64 (by simpa using h1)
  omega
end Go.Proofs.YtcmfnlleikcpnaaGreat.M
namespace Go.Proofs.YtcmfnlleikcpnaaGreat
open Go.RowKit
theorem own_grown (w : World) {e : TypeId} {sz n old : Nat} {z : Array Value} {vs : List Value} (hz : z.size = sz) (hl : vs.length = n * sz) (h63 : n ≤ maxLen) :
    (w.drew.alloc (.cells (vs.toArray ++ Builtin.zeroCells z (grownCap w n old e - n)) e)).ownsRow 0 e sz (.slice (some ⟨w.heap.size, 0, none⟩) n (grownCap w n old e)) n vs := by
  have hge := grownCap_ge w n old e
  have hcm : grownCap w n old e ≤ maxLen := grownCap_le_maxLen w n old e h63
  refine ⟨hl, .inr ⟨w.heap.size, _, _, rfl, Nat.zero_le _, heap_alloc_new w.drew _, hge, hcm, ?_, ?_⟩⟩
  · simp only [Array.size_append, List.size_toArray, size_zeroCells, hz, hl, ← Nat.add_mul]
    congr 1
    omega
  · simp only [Array.toList_append]
    rw [← hl]
    exact List.take_left
section
variable {P : Program} {n lo : Nat} {B : List Nat} {Q : Exit → Act → World → Prop} {cs : List Code} {K : Act → World → Prop} {ops : Array Oper} {rest : List Oper} {l : Fr} {os os' os1 : List Own} {u : World} {ty : TypeId} {pos : String} {af : Array Edge} {gd : Option (Nat × Bool)} {dst : Option Tmp} {v : Value} {d : Nat}
theorem e_appendG {x y : Operand} {t tx e : TypeId} {sz by' k kk n' : Nat} {z olds news vs' : List Value} {A : Option Addr} {yv : Value} (ht : elOf P t = some (e, sz, by', z)) (hzl : Nat.beq z.length sz = true) (hx : opd l x = some (.slice A k k)) (hs0 : ∀ w, St lo B u w os → Src P sz t (.slice A k k) k olds w) (hy : opd l y = some yv)
    (hs : ∀ w, St lo B u w os → Src P sz tx yv kk news w) (hpos : 0 < kk) (h63 : k + kk ≤ 9223372036854775807) (hb : (k + kk) * by' ≤ 140737488355328) (hn' : k + kk = n') (hvs : olds ++ news = vs') :
    OpE P n lo B l os u ⟨dst, .call { callee := .builtin .append, args := #[x, y], argTypes := #[t, tx] }, ty, pos, af, gd⟩ false
      (fun v' os' u' => ∃ A' c', v' = .slice A' n' c' ∧ os' = rowO e sz (.slice A' n' c') n' vs' [] :: os ∧ u = u') := fun a w ha hw K Q hk => by
  subst hn'; subst hvs
  unfold elOf at ht
  split at ht
  · rename_i e' hu
    split at ht
    · rename_i i' hi'
      split at ht
      · rename_i zv hzz
        simp only [Option.some.injEq, Prod.mk.injEq] at ht
        obtain ⟨rfl, rfl, rfl, rfl⟩ := ht
        have hzl : zv.cells.size = i'.size := by simpa [Nat.beq_eq] using hzl
        have h0 := hs0 w hw
        have h1 := hs w hw
        have hr := run_append_grow_src (P := P) w t tx ty e' i' zv hu hi' hzz A k k olds h0.cellsD yv kk news h1 (by omega) (by omega) (growslice_fits (by omega) hb)
        have hlen : (olds ++ news).length = (k + kk) * i'.size := by rw [List.length_append, h0.newsLen, h1.newsLen, Nat.add_mul]
        have hown := own_grown w (e := e') (n := k + kk) (old := k) hzl hlen (by unfold maxLen; omega)
        have hwn := hw.nilRowS e' i'.size
        unfold Oper.wp execOp
        simp only [resolve, invoke, builtin, Sem.run_bind, Sem.run_pure, Result.andThen_ok, List.map_toArray, List.map_cons, List.map_nil, ha.eval hx, ha.eval hy, hr]
        refine hk _ _ u _ ⟨_, _, rfl, rfl, rfl⟩ (Up.refl lo u) ?_ (fun h => by cases h)
        have hup := hwn.upd (i := 0) (o' := rowO e' i'.size (.slice (some ⟨w.heap.size, 0, none⟩) (k + kk) (grownCap w (k + kk) k e')) (k + kk) (olds ++ news) []) rfl (w' := w.drew.alloc (.cells ((olds ++ news).toArray ++ Builtin.zeroCells zv.cells (grownCap w (k + kk) k e' - (k + kk))) e')) rfl rfl rfl (by simp) (fun k hk _ => Below.heap_alloc w.drew _ k hk)
          (fun k hk => by
            simp only [rowO, Value.ownBlock, Option.toList_some, List.append_nil, List.mem_singleton] at hk
            subst hk
            exact .inr ⟨Nat.le_refl _, by simp⟩) (by simp [rowO, Value.ownBlock]) hown (fun k hk => by simp [rowO, Value.ownBlock] at hk)
        exact hup
      · simp at ht
    · simp at ht
  · simp at ht
theorem src_pre {tx e' e sz i m c b mx : Nat} {A : Option Addr} {vs : List Value} {g : List Nat} (hk : P.underlying tx = some (.slice e')) (hi : os[i]? = some (rowO e sz (.slice A m c) m vs g)) (h1 : ∀ w, St lo B u w os → vs.all (·.oneCell') = true) (hb : b ≤ m) (hc : b ≤ mx) (hsz : 0 < sz := by decide) :
    ∀ w, St lo B u w os → Src P sz tx (.slice (cutA sz A 0 mx) (b - 0) (mx - 0)) (b - 0) (vs.take (b * sz)) w := fun w hw => by
  have h := src_cut (a := 0) (mx := mx) hk hi (h1 w hw) (Nat.zero_le b) hb hc hsz w hw
  rw [Nat.zero_mul, List.drop_zero, Nat.sub_zero] at h
  exact h
theorem src_suf {tx e' e sz i m c a mx : Nat} {A : Option Addr} {vs : List Value} {g : List Nat} (hk : P.underlying tx = some (.slice e')) (hi : os[i]? = some (rowO e sz (.slice A m c) m vs g)) (h1 : ∀ w, St lo B u w os → vs.all (·.oneCell') = true) (ha : a ≤ m) (hc : m ≤ mx) (hsz : 0 < sz := by decide) :
    ∀ w, St lo B u w os → Src P sz tx (.slice (cutA sz A a mx) (m - a) (mx - a)) (m - a) (vs.drop (a * sz)) w := fun w hw => by
  have h := src_cut (mx := mx) hk hi (h1 w hw) ha (Nat.le_refl m) hc hsz w hw
  have hl := row_len hi w hw
  rw [List.take_of_length_le (by rw [List.length_drop, hl, Nat.sub_mul]; exact Nat.le_refl _)] at h
  exact h
theorem src_rowW {tx e' e : TypeId} {sz i m c : Nat} {A : Option Addr} {vs : List Value} {g : List Nat} (hk : P.underlying tx = some (.slice e')) (hi : os[i]? = some (rowO e sz (.slice A m c) m vs g)) (h1 : ∀ w, St lo B u w os → vs.all (·.oneCell') = true) (hsz : 0 < sz := by decide) :
    ∀ w, St lo B u w os → Src P sz tx (.slice A m c) m vs w := fun w hw => src_rowH hk hi (h1 w hw) hsz w hw
theorem St.insL {α : Type} (F : α → List Ty) {w : World} {i j m k : Nat} {xs : List α} {x : α} {vs c : List Value} {f g : List Nat} (hF : ∀ a, (F a).length = m) (hi : os[i]? = some (ownC (xs.flatMap F) vs f)) (hj : (os.eraseIdx i)[j]? = some (ownC (F x) c g)) (hk : k ≤ xs.length)
    (hw : St lo B u w os) : ∃ f', St lo B u w (ownC ((xs.take k ++ [x] ++ xs.drop k).flatMap F) (vs.take (k * m) ++ (c ++ vs.drop (k * m))) f' :: (os.eraseIdx i).eraseIdx j) := by
  have h1 := hw.front hi
  have h2 : St lo B u w (ownC (F x) c g :: ownC (xs.flatMap F) vs f :: (os.eraseIdx i).eraseIdx j) := by
    have h3 := h1.front (i := j + 1) (o := ownC (F x) c g) (by simpa using hj)
    simpa using h3
  have hl : vs.length = (xs.flatMap F).length := cellsOwn.length (w := w) (fp := f) (h1.prs (ownC (xs.flatMap F) vs f) (List.mem_cons_self ..))
  have l0 : (xs.flatMap F).length = xs.length * m := flat_len' F m hF xs
  have l1 : ((xs.take k).flatMap F).length = k * m := by rw [flat_len' F m hF, List.length_take, Nat.min_eq_left hk]
  have lk : k * m ≤ xs.length * m := Nat.mul_le_mul_right m hk
  have e1 : xs.flatMap F = (xs.take k).flatMap F ++ (xs.drop k).flatMap F := by rw [← List.flatMap_append, List.take_append_drop]
  have e2 : vs = vs.take (k * m) ++ vs.drop (k * m) := (List.take_append_drop _ _).symm
  have h4 : St lo B u w (ownC (xs.flatMap F) vs f :: ownC (F x) c g :: (os.eraseIdx i).eraseIdx j) := by
    have h3 := h2.front (i := 1) (o := ownC (xs.flatMap F) vs f) rfl
    simpa using h3
  rw [e1, e2] at h4
  obtain ⟨f1, f2, h5⟩ := h4.part (by rw [l1, List.length_take]; omega)
  have h6 := h5.front (i := 2) (o := ownC (F x) c g) rfl
  have h7 : St lo B u w (ownC (F x) c g :: ownC ((xs.take k).flatMap F) (vs.take (k * m)) f1 :: ownC ((xs.drop k).flatMap F) (vs.drop (k * m)) f2 :: (os.eraseIdx i).eraseIdx j) := by simpa using h6
  have h8 := h7.front (i := 1) (o := ownC ((xs.take k).flatMap F) (vs.take (k * m)) f1) rfl
  have h9 : St lo B u w (ownC ((xs.take k).flatMap F) (vs.take (k * m)) f1 :: ownC (F x) c g :: ownC ((xs.drop k).flatMap F) (vs.drop (k * m)) f2 :: (os.eraseIdx i).eraseIdx j) := by simpa using h8
  have h10 := h9.join.join
  have e3 : (xs.take k ++ [x] ++ xs.drop k).flatMap F = (xs.take k).flatMap F ++ F x ++ (xs.drop k).flatMap F := by simp
  have e4 : vs.take (k * m) ++ (c ++ vs.drop (k * m)) = vs.take (k * m) ++ c ++ vs.drop (k * m) := by rw [List.append_assoc]
  rw [e3, e4]
  exact ⟨_, h10⟩
theorem Js.insL {α : Type} (F : α → List Ty) {i j m k : Nat} {xs : List α} {x : α} {vs c vs' : List Value} {f g : List Nat} (hF : ∀ a, (F a).length = m) (hi : os[i]? = some (ownC (xs.flatMap F) vs f)) (hj : (os.eraseIdx i)[j]? = some (ownC (F x) c g)) (hk : k ≤ xs.length) (hv : vs.take (k * m) ++ (c ++ vs.drop (k * m)) = vs')
    (kk : ∀ f', Js P n lo B Q cs l (ownC ((xs.take k ++ [x] ++ xs.drop k).flatMap F) vs' f' :: (os.eraseIdx i).eraseIdx j) u) : Js P n lo B Q cs l os u := fun a w ha hw => by
  subst hv
  obtain ⟨f', h⟩ := hw.insL F hF hi hj hk
  exact kk f' a w ha h
end
theorem elemOk {α : Type} (F : α → List Ty) {w : World} {m k : Nat} {xs : List α} {y : α} {vs c : List Value} (hF : ∀ a, (F a).length = m) (h : cellsOk w (xs.flatMap F) vs) (hy : xs[k]? = some y) (hc : (vs.drop (0 + k * m)).take m = c) : cellsOk w (F y) c := by
  have h2 := cellsOk.take m (cellsOk.drop (k * m) h)
  rw [drop_flat F m hF xs k y hy] at h2
  rw [← hc, Nat.zero_add]; exact h2
def OneL (F : List Ty) : Prop := ∀ w vs f, cellsOwn w F vs f → vs.all (·.oneCell') = true
theorem OneL.flat {α : Type} {F : α → List Ty} (h : ∀ x, OneL (F x)) : ∀ xs : List α, OneL (xs.flatMap F)
  | [] => fun w vs f hc => by cases vs with | nil => rfl | cons v r => exact absurd hc (by simp [cellsOwn])
  | x :: xs => fun w vs f hc => by
    have hl := cellsOwn.length hc
    rw [List.flatMap_cons, List.length_append] at hl
    have key : ∀ (Ts Us : List Ty) (vs : List Value) (f : List Nat), cellsOwn w (Ts ++ Us) vs f → ∃ v1 v2 f1 f2, vs = v1 ++ v2 ∧ cellsOwn w Ts v1 f1 ∧ cellsOwn w Us v2 f2 := by
      intro Ts Us
      induction Ts with
      | nil => intro vs f h; exact ⟨[], vs, [], f, rfl, rfl, h⟩
      | cons T r ih => intro vs f h; cases vs with
        | nil => exact absurd h (by simp [cellsOwn])
        | cons v vr =>
          obtain ⟨f1, f2, rfl, h1, h2⟩ := h
          obtain ⟨v1, v2, g1, g2, rfl, h3, h4⟩ := ih vr f2 h2
          exact ⟨v :: v1, v2, f1 ++ g1, g2, rfl, ⟨f1, g1, rfl, h1, h3⟩, h4⟩
    rw [List.flatMap_cons] at hc
    obtain ⟨v1, v2, f1, f2, rfl, h1, h2⟩ := key _ _ _ _ hc
    rw [List.all_append, h x w v1 f1 h1, OneL.flat h xs w v2 f2 h2]; rfl
theorem ownOne {lo : Nat} {B : List Nat} {os : List Own} {u : World} {i : Nat} {Ts : List Ty} {vs : List Value} {f : List Nat} (hi : os[i]? = some (ownC Ts vs f)) (h : OneL Ts) : ∀ w, St lo B u w os → vs.all (·.oneCell') = true :=
  fun w hw => h w vs f (hw.prs _ (List.mem_of_getElem? hi))
theorem one_sl {w : World} {e sz n : Nat} {Ts : List Ty} {v : Value} {f : List Nat} (h : (Ty.sl e sz n Ts).own w v f) : v.oneCell' = true := by
  obtain ⟨_, vs, f', h1, _, _⟩ := h
  rcases h1.2 with ⟨rfl, _⟩ | ⟨g, cap, cur, rfl, _⟩ <;> rfl
theorem OneL.nil : OneL [] := fun w vs f h => by cases vs with | nil => rfl | cons v r => exact absurd h (by simp [cellsOwn])
theorem OneL.consSl {e sz n : Nat} {Ts r : List Ty} (h : OneL r) : OneL (Ty.sl e sz n Ts :: r) := fun w vs f hc => by
  cases vs with
  | nil => exact absurd hc (by simp [cellsOwn])
  | cons v vr =>
    obtain ⟨f1, f2, _, h1, h2⟩ := hc
    rw [List.all_cons, one_sl h1, h w vr f2 h2]; rfl
theorem one_app {a b : List Value} (h1 : a.all (·.oneCell') = true) (h2 : b.all (·.oneCell') = true) : (a ++ b).all (·.oneCell') = true := by rw [List.all_append, h1, h2]; rfl
theorem one_drop {a : List Value} (k : Nat) (h1 : a.all (·.oneCell') = true) : (a.drop k).all (·.oneCell') = true := by
  rw [List.all_eq_true] at h1 ⊢; exact fun v hv => h1 v (List.mem_of_mem_drop hv)
theorem fltV_split {α : Type} {F : List α → List Ty} {C : α → List Value} {sz : Nat} [hf : FltL F C sz] (xs : List α) (k : Nat) : (fltV C xs).take (k * sz) = fltV C (xs.take k) ∧ (fltV C xs).drop (k * sz) = fltV C (xs.drop k) := by
  by_cases hk : k ≤ xs.length
  · have e : fltV C xs = fltV C (xs.take k) ++ fltV C (xs.drop k) := by rw [fltV_app, List.take_append_drop]
    have hl : (fltV C (xs.take k)).length = k * sz := by rw [fltV_len hf.lenC, List.length_take, Nat.min_eq_left hk]
    rw [e]
    exact ⟨by rw [← hl, List.take_left], by rw [← hl, List.drop_left]⟩
  · have hl : (fltV C xs).length ≤ k * sz := by rw [fltV_len hf.lenC]; exact Nat.mul_le_mul_right sz (by omega)
    rw [List.take_of_length_le hl, List.drop_eq_nil_of_le hl, List.take_of_length_le (by omega), List.drop_eq_nil_of_le (by omega)]
    exact ⟨rfl, rfl⟩
section
variable {P : Program} {n lo : Nat} {B : List Nat} {Q : Exit → Act → World → Prop} {cs : List Code} {l : Fr} {os os' : List Own} {u : World}
theorem giveL (ks : List Nat) {w w₀ : World} {bs : List Own} {fr : List Own} {m : Nat} (hb : Bw w₀ bs) (x : Up w₀.heap.size (offW w₀ (bs.flatMap (·.fp))) u) (hp : PP os ks os') (hf : NL (os'.take m) fr)
    (hw : St w₀.heap.size (bs.flatMap (·.fp)) u w os) : St w₀.heap.size (bs.flatMap (·.fp)) u w (fr ++ [anyO ((os'.drop m).flatMap (·.fp))]) := by
  have hpm := hp.perm
  have e : os' = fr ++ os'.drop m := by rw [← hf.eq, List.take_append_drop]
  exact hw.conv (fun o ho => by
    rcases List.mem_append.1 ho with ho | ho
    · exact hw.prs o (hpm.mem_iff.2 (by rw [e]; exact List.mem_append_left _ ho))
    · simp at ho; subst ho; trivial) (by
    have := hpm.symm.flatMap_right (fun o : Own => o.fp)
    rw [e, List.flatMap_append] at this
    rw [List.flatMap_append]
    simpa [anyO] using this)
theorem zrbE (ks : List Nat) {fn : Func} {R : Value → List Own → Prop} {w₀ : World} {bs : List Own} {fr : List Own} {m : Nat} (hb : Bw w₀ bs) (x : Up w₀.heap.size (offW w₀ (bs.flatMap (·.fp))) u) (h : R (.tuple #[]) fr)
    (hr : fn.results = #[] := by rfl) (hm : ks.length = m := by rfl) (hp : PP os ks os' := by exact pp_) (hf : NL (os'.take m) fr := by exact nl) :
    Js P n w₀.heap.size (bs.flatMap (·.fp)) (bodyPost P fn (RB w₀ bs R)) [] l os u := Js.end_ fun a w ha hw =>
  ⟨ha.dfr, .tuple #[], by unfold results; rw [hr]; simp, _, fr, _, rfl, h, (giveL ks hb x hp hf hw).giveBack hb x⟩
theorem zrb0 (ks : List Nat) {fn : Func} {R : Value → List Own → Prop} {w₀ : World} {bs : List Own} {fr : List Own} {m : Nat} (hb : Bw w₀ bs) (x : Up w₀.heap.size (offW w₀ (bs.flatMap (·.fp))) u) (h : R (.tuple #[]) fr)
    (hq : RetQ P fn (RB w₀ bs R) Q := by exact rq_) (hr : fn.results = #[] := by rfl) (hm : ks.length = m := by rfl) (hp : PP os ks os' := by exact pp_) (hf : NL (os'.take m) fr := by exact nl) :
    Js P n w₀.heap.size (bs.flatMap (·.fp)) Q (.ret :: cs) l os u := Js.ret_ fun a w ha hw => by
  rw [hq.eq]
  exact ⟨ha.dfr, .tuple #[], by unfold results; rw [hr]; simp, _, fr, _, rfl, h, (giveL ks hb x hp hf hw).giveBack hb x⟩
end
theorem ints_elemN {e : TypeId} {c i n : Nat} {A : Option Addr} {xs : List Int} {u : World} (hl : xs.length = n) (h : (Ty.ints e xs).ok u (.slice A n c)) (hi : i < n) :
    ∃ b o, elemA 1 (.slice A n c) i = some ⟨b, o, none⟩ ∧ Cell u b o (.int .i64 (M.nth xs i)) := by
  subst hl
  exact ints_elem h hi
end Go.Proofs.YtcmfnlleikcpnaaGreat
namespace Go.Proofs.YtcmfnlleikcpnaaGreat.M
theorem viewP_16 {r : Rul} {p : Pos} (h : okP r p = true) : (viewP r p).pits.length ≤ 16 := by
  have hb := okP_bd h
  unfold viewP; split
  · omega
  · simp [turnP]; omega
end Go.Proofs.YtcmfnlleikcpnaaGreat.M
namespace Go.Proofs.YtcmfnlleikcpnaaGreat
open Go.RowKit
theorem strs_cellsok {w : World} : ∀ l : List (List UInt8), cellsOk w (l.map Ty.str) (txs_ l)
  | [] => trivial
  | x :: l => ⟨rfl, strs_cellsok l⟩
theorem strs_rowok {w : World} {e : TypeId} {n : Nat} {v : Value} {xs : List (List UInt8)} {g : List Nat} (h : (rowO e 1 v n (txs_ xs) g).pr w) : (Ty.strs e xs).ok w v := by
  have hl : n = xs.length := by have := h.1; rw [List.length_map] at this; omega
  subst hl
  exact row_ok h (strs_cellsok xs)
def Ty.lax (T : Ty) : Ty :=
  ⟨T.ok, fun w v fp => ∀ w', (∀ k, k ∈ fp → w'.heap[k]? = w.heap[k]?) → T.ok w' v,
   T.mono, fun {w w' v fp} h k w2 k2 => h w2 (fun j hj => (k2 j hj).trans (k j hj)), fun {w v fp} h => h w (fun _ _ => rfl)⟩
instance {T : Ty} {E : World → (Value → Prop) → Prop} [h : Opn T E] : Opn (Ty.lax T) E := ⟨fun u K k v hv => h.h u K k v hv⟩
instance {T : Ty} {E : (Value → Prop) → Prop} [h : Frm T E] : Frm (Ty.lax T) E := ⟨fun K k w v hv => h.h K k w v hv⟩
section
variable {os os' : List Own} {v v0 : Value} {T T0 : Ty}
end
end Go.Proofs.YtcmfnlleikcpnaaGreat
namespace Go.Proofs.YtcmfnlleikcpnaaGreat.M
def scG (g : Gam) (p : Pos) : Int := if winner g = p.player then 2 else if winner g = -1 then 1 else 0
def gmE (g : Gam) (es : List Ent) (l : List (Pos × Int)) : List Ent := l.foldl (fun es x => addE es (viewP g.rules x.1).pits ⟨x.2, 1, scG g x.1⟩) es
def gmL (g : Gam) : List (Pos × Int) := ((playedP g).zip g.moves).take 20
theorem nth_some {l : List Int} {k : Nat} (h : k < l.length) : l[k]? = some (nth l k) := by simp [nth, List.getD, h]
theorem nth_take0 {l : List Int} {n k : Nat} (h : k < n) : nth ((l.drop 0).take (n - 0)) k = nth l k := by simp [nth, List.getD, h]
theorem gmE_step {g : Gam} {es : List Ent} {k : Nat} {y : Pos} (hy : (playedP g)[k]? = some y) (hk : k < g.moves.length) (h20 : k < 20) :
    gmE g es ((gmL g).take (k + 1)) = addE (gmE g es ((gmL g).take k)) (viewP g.rules y).pits ⟨nth g.moves k, 1, scG g y⟩ := by
  have h1 : (gmL g)[k]? = some (y, nth g.moves k) := by
    unfold gmL
    rw [List.getElem?_take_of_lt h20, List.getElem?_zip_eq_some]
    exact ⟨hy, nth_some hk⟩
  unfold gmE
  rw [List.take_add_one, h1]
  simp
theorem gmL_len (g : Gam) : (gmL g).length ≤ 20 := by unfold gmL; rw [List.length_take]; omega
theorem gmL_end {g : Gam} {k : Nat} (hk : g.moves.length ≤ k ∨ 20 ≤ k) : (gmL g).take k = gmL g := by
  apply List.take_of_length_le
  unfold gmL; rw [List.length_take, List.length_zip]; omega
theorem cntE_gm (g : Gam) : ∀ (l : List (Pos × Int)) (es : List Ent), cntE (gmE g es l) ≤ cntE es + l.length
  | [], es => by simp [gmE]
  | x :: l, es => by
    have h1 := cntE_gm g l (addE es (viewP g.rules x.1).pits ⟨x.2, 1, scG g x.1⟩)
    have h2 := cntE_add es (viewP g.rules x.1).pits ⟨x.2, 1, scG g x.1⟩
    have e : gmE g es (x :: l) = gmE g (addE es (viewP g.rules x.1).pits ⟨x.2, 1, scG g x.1⟩) l := rfl
    rw [e, List.length_cons]; omega
def scS (p w : Int) : Int := if w = -1 then 1 else if w = p then 2 else 0
theorem scS_bd (p w : Int) : 0 ≤ scS p w ∧ scS p w ≤ 2 := by
  unfold scS
  split
  · omega
  · split <;> omega
theorem scS_eq {g : Gam} {p : Pos} (h : okP g.rules p = true) : scS p.player (winner g) = scG g p := by
  have hb := okP_bd h
  unfold scS scG
  by_cases h1 : winner g = -1
  · rw [if_pos h1, if_neg (by omega), if_pos h1]
  · rw [if_neg h1, if_neg h1]
def gamB (b : Boo) (g : Gam) : Boo := ⟨b.rules, gmE g b.entries (gmL g)⟩
def addGame (b : Boo) (g : Gam) : Boo × Int :=
  if okB b = true ∧ okG g = true then (if endC g = 0 ∧ g.rules = b.rules then (if okB (gamB b g) = true then (gamB b g, 0) else (Boo.zero, 5)) else (Boo.zero, 6)) else (Boo.zero, 1)
theorem addGame_1 {b : Boo} {g : Gam} (h : ¬ (okB b = true ∧ okG g = true)) : addGame b g = (Boo.zero, 1) := by unfold addGame; rw [if_neg h]
theorem addGame_6 {b : Boo} {g : Gam} (h : okB b = true ∧ okG g = true) (h2 : ¬ (endC g = 0 ∧ g.rules = b.rules)) : addGame b g = (Boo.zero, 6) := by unfold addGame; rw [if_pos h, if_neg h2]
theorem addGame_5 {b : Boo} {g : Gam} (h : okB b = true ∧ okG g = true) (h2 : endC g = 0 ∧ g.rules = b.rules) (h3 : ¬ okB (gamB b g) = true) : addGame b g = (Boo.zero, 5) := by unfold addGame; rw [if_pos h, if_pos h2, if_neg h3]
theorem addGame_0 {b : Boo} {g : Gam} (h : okB b = true ∧ okG g = true) (h2 : endC g = 0 ∧ g.rules = b.rules) (h3 : okB (gamB b g) = true) : addGame b g = (gamB b g, 0) := by unfold addGame; rw [if_pos h, if_pos h2, if_pos h3]
theorem addGame_tot {b : Boo} (g : Gam) (hb : b.entries.length + totE b.entries ≤ 1048576) : (addGame b g).1.entries.length + totE (addGame b g).1.entries ≤ 3000000 := by
  have z : Boo.zero.entries.length + totE Boo.zero.entries ≤ 3000000 := by simp [Boo.zero, totE]
  by_cases h : okB b = true ∧ okG g = true
  · by_cases h2 : endC g = 0 ∧ g.rules = b.rules
    · by_cases h4 : okB (gamB b g) = true
      · rw [addGame_0 h h2 h4]
        have h5 := okB_sum h4
        have h6 := cntE_gm g (gmL g) b.entries
        have h7 := cntE_tot b.entries
        have h8 := gmL_len g
        have e : (gamB b g).entries = gmE g b.entries (gmL g) := rfl
        show (gamB b g).entries.length + totE (gamB b g).entries ≤ 3000000
        rw [e] at h5 ⊢
        rw [totE_sum]
        omega
      · rw [addGame_5 h h2 h4]; exact z
    · rw [addGame_6 h h2]; exact z
  · rw [addGame_1 h]; exact z
theorem runs_snoc (r : Rul) (m : Int) : ∀ (a : List Int) (p : Pos), (runs r p a).length = a.length → (make r (lastPos p (runs r p a)) m).2 = 0 → runs r p (a ++ [m]) = runs r p a ++ [(make r (lastPos p (runs r p a)) m).1]
  | [], p, _, h => by
    have h' : (make r p m).2 = 0 := h
    show (if (make r p m).2 = 0 then _ else _) = _
    rw [if_pos h']
    rfl
  | x :: xs, p, hl, h => by
    by_cases hz : (make r p x).2 = 0
    · have e : runs r p (x :: xs) = (make r p x).1 :: runs r (make r p x).1.next xs := by rw [runs, if_pos hz]
      rw [e] at hl h ⊢
      have := runs_snoc r m xs (make r p x).1.next (by simpa using hl) h
      rw [List.cons_append, runs, if_pos hz, this]
      rfl
    · rw [runs, if_neg hz] at hl; simp at hl
structure Played (g : Gam) (move : Int) : Prop where
  ok : okG (play g move).1 = true
  code : (make g.rules g.now move).2 = 0
  now : (play g move).1.now = (make g.rules g.now move).1.next
  back : undo (play g move).1 = (g, 0)
theorem played {g : Gam} {move : Int} (h : okG g = true) (hz : (play g move).2 = 0) : Played g move := by
  obtain ⟨k1, k2, k3, k4, k5, k6, k7, k8, k9⟩ := okG_parts h
  by_cases h1 : 0 ≤ g.resigned
  · rw [play_6 h1] at hz; simp at hz
  by_cases h2 : g.moves.length = 120
  · rw [play_5 h1 h2] at hz; simp at hz
  have h3 : (make g.rules g.now move).2 = 0 := Decidable.byContradiction fun h3 => by rw [play_c h1 h2 h3] at hz; exact h3 hz
  have hp := play_0 h1 h2 h3
  have hs := runs_snoc g.rules move g.moves g.start k8 (by rw [← k9]; exact h3)
  rw [← k9] at hs
  have hr : g.resigned = -1 := by omega
  have hok : okG (play g move).1 = true := by
    rw [hp]
    simp only [okG, Bool.and_eq_true, decide_eq_true_eq, hs]
    refine ⟨⟨⟨⟨k1, ?_⟩, betw_iff.2 ⟨k3, k4⟩⟩, ?_⟩, lastPos_snoc _ _ _⟩
    · simp; omega
    · simp [k8]
  refine ⟨hok, h3, by rw [hp], ?_⟩
  have hl : (play g move).1.moves.length = g.moves.length + 1 := by rw [hp]; simp
  have hrr : (play g move).1.resigned = -1 := by rw [hp]; exact hr
  rw [undo_0 hok (by omega), hl]
  have e : (((g.moves.length + 1 : Nat) : Int) - 1).toNat = g.moves.length := by omega
  rw [e]
  obtain ⟨j1, j2, j3, j4, j5, j6, j7, j8, j9⟩ := okG_parts hok
  have hn : (cutG (play g move).1 g.moves.length).now = g.now := by
    refine cutG_now ?_
    rw [j6, hp]
    show (hist g.start (runs g.rules g.start (g.moves ++ [move])))[g.moves.length]? = _
    rw [hs]
    have e2 : hist g.start (runs g.rules g.start g.moves ++ [(make g.rules g.now move).1]) = hist g.start (runs g.rules g.start g.moves) ++ [(make g.rules g.now move).1.next] := by simp [hist]
    rw [e2, List.getElem?_append_left (by simp [k8]), ← k8, hist_last, ← k9]
  refine Prod.ext (gam_ext ?_ ?_ ?_ hn ?_) rfl
  · rw [hp]; rfl
  · rw [hp]; rfl
  · rw [hp]; simp [cutG]
  · rw [hr]; rfl
structure Resigned (g : Gam) (player : Int) : Prop where
  ok : okG (resign g player).1 = true
  play : playR (resign g player).1 0 = (Gam.zero, 6)
  endc : endC (resign g player).1 = 0
  win : winner (resign g player).1 = 1 - player
theorem resigned {g : Gam} {player : Int} (h : (resign g player).2 = 0) : Resigned g player := by
  cases hg : okG g
  · rw [resign_1 hg] at h; simp at h
  cases hp : isPl player
  · rw [resign_2 hg hp] at h; simp at h
  by_cases hr : 0 ≤ g.resigned
  · rw [resign_6 hg hp hr] at h; simp at h
  have e := resign_0 hg hp hr
  have hpl : player = 0 ∨ player = 1 := by simpa [isPl] using hp
  have hok : okG ⟨g.rules, g.start, g.moves, g.now, player⟩ = true := by
    unfold okG at hg ⊢
    simp only [Bool.and_eq_true] at hg ⊢
    obtain ⟨⟨⟨⟨a, b⟩, _⟩, d⟩, f⟩ := hg
    exact ⟨⟨⟨⟨a, b⟩, betw_iff.2 (by omega)⟩, d⟩, f⟩
  have h0 : 0 ≤ (⟨g.rules, g.start, g.moves, g.now, player⟩ : Gam).resigned := by show 0 ≤ player; omega
  have hc : endC ⟨g.rules, g.start, g.moves, g.now, player⟩ = 0 := endC_0 hok (by rw [endOf_1 h0]; decide)
  refine ⟨?_, ?_, ?_, ?_⟩ <;> rw [e]
  · exact hok
  · rw [playR_yes hok, play_6 h0]
  · exact hc
  · exact winner_r hc h0
structure BE (n : Nat) (es : List Ent) : Prop where
  len : es.length ≤ n
  sz : ∀ x ∈ es, 1 ≤ x.pits.length ∧ x.pits.length ≤ 16 ∧ 1 ≤ x.choices.length ∧ x.choices.length ≤ n
  eb : EB (2000000 * (n + 1)) es
theorem BE.nil (n : Nat) : BE n [] := ⟨by simp, fun x h => by simp at h, fun x h => by simp at h⟩
theorem BE.mono {m n : Nat} {es : List Ent} (h : BE m es) (hm : m ≤ n) : BE n es :=
  ⟨by have := h.len; omega, fun x hx => by have := h.sz x hx; omega, h.eb.mono (by omega)⟩
theorem addC_pos (cs : List Cho) (c : Cho) : 1 ≤ (addC cs c).length := by
  unfold addC; split
  · rename_i h; rw [List.length_set]; omega
  · simp only [List.append_assoc, List.length_append, List.length_cons, List.length_nil]; omega
theorem BE.step {n : Nat} {es : List Ent} {pits : List Int} {c : Cho} (h : BE n es) (p1 : 1 ≤ pits.length) (p2 : pits.length ≤ 16) (h0 : 0 ≤ c.games) (h1 : c.games ≤ 2000000) (h2 : 0 ≤ c.score) (h3 : c.score ≤ 2000000) : BE (n + 1) (addE es pits c) := by
  refine ⟨?_, fun x hx => ?_, ?_⟩
  · have := addE_len es pits c; have := h.len; omega
  · rcases addE_mem hx with hx | rfl | ⟨z, hz, rfl⟩
    · have := h.sz x hx; omega
    · exact ⟨p1, p2, by simp, by simp⟩
    · have a := h.sz z hz
      have b := addC_len z.choices c
      have d := addC_pos z.choices c
      exact ⟨p1, p2, d, by simp only; omega⟩
  · have := EB.add (pits := pits) h.eb h0 h1 h2 h3 (by omega)
    refine this.mono ?_
    push_cast
    omega
theorem BE.req {n : Nat} {es : List Ent} (h : BE n es) (hn : n ≤ 2000) : es.length ≤ 4194303 ∧ SzE 4194304 es ∧ EB 1000000000000000 es :=
  ⟨by have := h.len; omega, fun x hx => by have := h.sz x hx; omega, h.eb.mono (by omega)⟩
theorem totE_bound {n : Nat} : ∀ es : List Ent, (∀ x ∈ es, x.pits.length + x.choices.length ≤ n) → totE es ≤ es.length * n
  | [], _ => by simp [totE]
  | e :: es, h => by
    have h1 := totE_bound es (fun x hx => h x (by simp [hx]))
    have h2 := h e (by simp)
    rw [totE, List.length_cons, Nat.succ_mul]; omega
theorem BE.tot {n : Nat} {es : List Ent} (h : BE n es) (hn : n ≤ 500) : es.length + totE es ≤ 300000 := by
  have h1 := totE_bound (n := 516) es (fun x hx => by have := h.sz x hx; omega)
  have h2 := h.len
  have h3 : es.length * 516 ≤ 500 * 516 := Nat.mul_le_mul_right 516 (by omega)
  omega
theorem BE.snoc {n : Nat} {es : List Ent} {x : Ent} (h : BE n es) (p1 : 1 ≤ x.pits.length) (p2 : x.pits.length ≤ 16) (p3 : 1 ≤ x.choices.length) (p4 : x.choices.length ≤ 1) (p5 : ∀ y ∈ x.choices, 0 ≤ y.games ∧ y.games ≤ 2000000 ∧ 0 ≤ y.score ∧ y.score ≤ 2000000) : BE (n + 1) (es ++ [x]) := by
  refine ⟨by simp; exact h.len, fun y hy => ?_, fun y hy z hz => ?_⟩
  · rcases List.mem_append.1 hy with hy | hy
    · have := h.sz y hy; omega
    · rw [List.mem_singleton.1 hy]; omega
  · rcases List.mem_append.1 hy with hy | hy
    · have := h.eb y hy z hz
      push_cast
      omega
    · rw [List.mem_singleton.1 hy] at hz
      have := p5 z hz
      push_cast
      omega
theorem turnP_len (r : Rul) (p : Pos) : (turnP r p).pits.length = p.pits.length := by simp [turnP]; omega
theorem std3 {x : List UInt8} (h : x ∈ ([[109, 105, 110, 105], [114, 101, 108, 97, 121], [107, 97, 108, 97, 104]] : List (List UInt8))) : x ∈ stdNames := by
  simp only [List.mem_cons, List.not_mem_nil, or_false] at h
  unfold stdNames
  rcases h with rfl | rfl | rfl <;> simp
theorem totE_set : ∀ (es : List Ent) (k : Nat) (x : Ent), totE (es.set k x) ≤ totE es + x.pits.length + x.choices.length
  | [], _, _ => by simp [totE]
  | e :: es, 0, x => by simp [totE]; omega
  | e :: es, k + 1, x => by have := totE_set es k x; rw [List.set_cons_succ, totE, totE]; omega
theorem bent_set {es : List Ent} {k : Nat} {x : Ent} (h : es.length + totE es ≤ 300000) (hx : x.pits.length + x.choices.length ≤ 4000) : (es.set k x).length + totE (es.set k x) ≤ 400000 := by
  have := totE_set es k x
  rw [List.length_set]; omega
theorem bent_app {es : List Ent} {x : Ent} (h : es.length + totE es ≤ 300000) (hx : x.pits.length + x.choices.length ≤ 4000) : (es ++ [x]).length + totE (es ++ [x]) ≤ 400000 := by
  rw [totE_app, List.length_append, totE, totE, List.length_singleton]; omega
def Gro (a b : List Ent) (k : Int) : Prop := ∀ n : Nat, BE n a → BE (n + k.toNat) b
theorem Gro.refl (a : List Ent) : Gro a a 0 := fun n h => h
theorem Gro.refl' (a : List Ent) {k : Int} (hk : 0 ≤ k) : Gro a a k := fun n h => h.mono (by omega)
theorem Gro.step {a b : List Ent} {pits : List Int} {c : Cho} {k : Int} (h : Gro a b k) (hk : 0 ≤ k) (p1 : 1 ≤ pits.length) (p2 : pits.length ≤ 16) (h0 : 0 ≤ c.games) (h1 : c.games ≤ 2000000) (h2 : 0 ≤ c.score) (h3 : c.score ≤ 2000000) : Gro a (addE b pits c) (k + 1) := fun n hn => by
  have := (h n hn).step p1 p2 h0 h1 h2 h3
  rw [show n + (k + 1).toNat = n + k.toNat + 1 by omega]; exact this
theorem Gro.mono {a b : List Ent} {k j : Int} (h : Gro a b k) (hj : k ≤ j) : Gro a b j := fun n hn => (h n hn).mono (by omega)
theorem Gro.trans {a b c : List Ent} {k j : Int} (h : Gro a b k) (g : Gro b c j) (hk : 0 ≤ k) (hj : 0 ≤ j) : Gro a c (k + j) := fun n hn => by
  have := g _ (h n hn)
  rw [show n + (k + j).toNat = n + k.toNat + j.toNat by omega]; exact this
structure GI (r : Rul) (g : Gam) : Prop where
  ru : g.rules = r
  sp : g.start.pits.length ≤ 16
  ss : g.start.stores.length ≤ 2
  m : g.moves.length ≤ 120
  np : (g.now.pits.length : Int) = 2 * r.pits
  ns : g.now.stores.length = 2
theorem GI.play {r : Rul} {g : Gam} {move : Int} (h : GI r g) (hz : (play g move).2 = 0) : GI r (play g move).1 := by
  have hm := h.m
  by_cases h1 : 0 ≤ g.resigned
  · rw [play_6 h1] at hz; simp at hz
  by_cases h2 : g.moves.length = 120
  · rw [play_5 h1 h2] at hz; simp at hz
  have h3 : (make g.rules g.now move).2 = 0 := Decidable.byContradiction fun h3 => by rw [play_c h1 h2 h3] at hz; exact h3 hz
  rw [play_0 h1 h2 h3]
  have ho := okP_bd (make_ok h3).2.2.2.1
  exact ⟨h.ru, h.sp, h.ss, by simp; omega, by rw [← h.ru]; exact ho.2.2.1, ho.2.2.2.1⟩
def RiseC (l : List Cho) : Prop := ∀ i j, i < j → j < l.length → (cho l i).move < (cho l j).move
theorem riseC_of {r : Rul} {p : Pos} {cs : List Cho} (h : okCs r p cs = true) : RiseC cs := by
  intro i j hij hj
  induction j with
  | zero => omega
  | succ j ih =>
    have h1 : (cho cs j).move < (cho cs (j + 1)).move := by
      have := all_at h hj
      unfold chAt at this
      simp only [Bool.and_eq_true, Bool.or_eq_true, decide_eq_true_eq] at this
      rcases this.1.1.1 with h0 | h0
      · omega
      · exact h0
    by_cases e : i = j
    · rw [e]; exact h1
    · have := ih (by omega) (by omega); omega
theorem xb_ {q p : Prop} (hB : q) (k : q → p := by intro hB; first | trivial | assumption | omega | exact Nat.le_trans (hB.tot (by omega)) (by omega) | (dsimp only; exact Nat.le_trans (hB.tot (by omega)) (by omega)) | (dsimp only; exact M.bent_set (hB.tot (by omega)) (by dsimp only; (try simp only [List.length_set, List.length_nil]); omega)) | (dsimp only; exact M.bent_app (hB.tot (by omega)) (by (try dsimp only); omega))) : p := k hB
def prC (lo : Int) (cs : List Cho) : List Cho := cs.filter (fun c => decide (lo ≤ c.games))
def prE (lo : Int) (es : List Ent) : List Ent := (es.map (fun e => (⟨e.pits, prC lo e.choices⟩ : Ent))).filter (fun e => decide (0 < e.choices.length))
theorem prC_yes {lo : Int} {cs : List Cho} {k : Nat} (hk : k < cs.length) (h : lo ≤ (cho cs k).games) : prC lo (cs.take (k + 1)) = prC lo (cs.take k) ++ [cho cs k] := by
  unfold prC; rw [List.take_add_one, cho_get hk]; simp [List.filter_append, h]
theorem prC_no {lo : Int} {cs : List Cho} {k : Nat} (hk : k < cs.length) (h : ¬ lo ≤ (cho cs k).games) : prC lo (cs.take (k + 1)) = prC lo (cs.take k) := by
  unfold prC; rw [List.take_add_one, cho_get hk]; simp [List.filter_append, h]
theorem prC_len (lo : Int) (cs : List Cho) : (prC lo cs).length ≤ cs.length := List.length_filter_le _ _
theorem prC_lent (lo : Int) (cs : List Cho) (k : Nat) : (prC lo (cs.take k)).length ≤ k := by have := prC_len lo (cs.take k); rw [List.length_take] at this; omega
theorem prE_yes {lo : Int} {es : List Ent} {k : Nat} (hk : k < es.length) (h : 0 < (prC lo (ent es k).choices).length) : prE lo (es.take (k + 1)) = prE lo (es.take k) ++ [⟨(ent es k).pits, prC lo (ent es k).choices⟩] := by
  unfold prE; rw [List.take_add_one, ent_get hk]; simp only [Option.toList_some, List.map_append, List.map_cons, List.map_nil, List.filter_append]; congr 1; rw [List.filter_cons_of_pos (by simpa using h), List.filter_nil]
theorem prE_no {lo : Int} {es : List Ent} {k : Nat} (hk : k < es.length) (h : ¬ 0 < (prC lo (ent es k).choices).length) : prE lo (es.take (k + 1)) = prE lo (es.take k) := by
  unfold prE; rw [List.take_add_one, ent_get hk]; simp only [Option.toList_some, List.map_append, List.map_cons, List.map_nil, List.filter_append]; rw [List.filter_cons_of_neg (by simpa using h), List.filter_nil, List.append_nil]
theorem prE_len (lo : Int) (es : List Ent) : (prE lo es).length ≤ es.length := by
  unfold prE; have := List.length_filter_le (fun e : Ent => decide (0 < e.choices.length)) (es.map (fun e => (⟨e.pits, prC lo e.choices⟩ : Ent))); rw [List.length_map] at this; exact this
theorem prE_lent (lo : Int) (es : List Ent) (k : Nat) : (prE lo (es.take k)).length ≤ k := by have := prE_len lo (es.take k); rw [List.length_take] at this; omega
theorem prE_tot (lo : Int) : ∀ es : List Ent, (prE lo es).length + totE (prE lo es) ≤ es.length + totE es
  | [] => by simp [prE, totE]
  | e :: es => by
    have h := prE_tot lo es
    have h2 := prC_len lo e.choices
    have e1 : prE lo (e :: es) = if 0 < (prC lo e.choices).length then ⟨e.pits, prC lo e.choices⟩ :: prE lo es else prE lo es := by
      unfold prE; rw [List.map_cons, List.filter_cons]; simp
    rw [e1]; split
    · simp only [List.length_cons, totE]; omega
    · simp only [List.length_cons, totE]; omega
def prune (b : Boo) (lo : Int) : Boo × Int := if okB b = true then (if betw lo 0 1000000 = true then (⟨b.rules, prE lo b.entries⟩, 0) else (Boo.zero, 2)) else (Boo.zero, 1)
theorem prune_1 {b : Boo} {lo : Int} (h : ¬ okB b = true) : prune b lo = (Boo.zero, 1) := by unfold prune; rw [if_neg h]
theorem prune_2 {b : Boo} {lo : Int} (h : okB b = true) (h2 : ¬ betw lo 0 1000000 = true) : prune b lo = (Boo.zero, 2) := by unfold prune; rw [if_pos h, if_neg h2]
theorem prune_0 {b : Boo} {lo : Int} (h : okB b = true) (h2 : betw lo 0 1000000 = true) : prune b lo = (⟨b.rules, prE lo b.entries⟩, 0) := by unfold prune; rw [if_pos h, if_pos h2]
theorem prune_tot (b : Boo) (lo : Int) : (prune b lo).1.entries.length + totE (prune b lo).1.entries ≤ b.entries.length + totE b.entries := by
  unfold prune; split
  · split
    · exact prE_tot lo b.entries
    · simp [Boo.zero, totE]
  · simp [Boo.zero, totE]
end Go.Proofs.YtcmfnlleikcpnaaGreat.M

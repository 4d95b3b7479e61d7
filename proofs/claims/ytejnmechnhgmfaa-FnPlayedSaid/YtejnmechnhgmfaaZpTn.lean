/- The table of types of the program, and what the types of the model are. -/
import Derived.Test.YtejnmechnhgmfaaZpF17
import Derived.Test.YtejnmechnhgmfaaProg
set_option linter.unusedSimpArgs false
set_option linter.unusedVariables false
namespace Go.Proofs.Ytejnmechnhgmfaa
open Go.RowKit
theorem cellsOk_cons {w : World} {T : Ty} {Ts : List Ty} : ∀ {vs : List Value}, cellsOk w (T :: Ts) vs → ∃ x r, vs = x :: r ∧ T.ok w x ∧ cellsOk w Ts r
  | x :: r, h => ⟨x, r, rfl, h.1, h.2⟩
theorem cellsOk_nil {w : World} : ∀ {vs : List Value}, cellsOk w [] vs → vs = []
  | [], _ => rfl
theorem drop_flat {α β : Type} (f : α → List β) (k : Nat) (hf : ∀ a, (f a).length = k) : ∀ (l : List α) (i : Nat) (a : α), l[i]? = some a → ((l.flatMap f).drop (i * k)).take k = f a
  | x :: l, 0, a, h => by
    simp at h; subst h
    simp [List.flatMap_cons, hf, List.take_append]
  | x :: l, i + 1, a, h => by
    simp at h
    rw [List.flatMap_cons, Nat.succ_mul, Nat.add_comm, ← List.drop_drop, List.drop_left' (hf x)]
    exact drop_flat f k hf l i a h
  | [], _, _, h => by simp at h
theorem flat_len {α β : Type} (f : α → List β) (k : Nat) (hf : ∀ a, (f a).length = k) : ∀ (l : List α), (l.flatMap f).length = l.length * k
  | [] => by simp
  | x :: l => by rw [List.flatMap_cons, List.length_append, hf, flat_len f k hf l, List.length_cons, Nat.succ_mul, Nat.add_comm]
instance ty_2 : TyI Try.prog 2 false 1 := ⟨by kernel_rfl⟩
instance ty_3 : TyI Try.prog 3 false 1 := ⟨by kernel_rfl⟩
instance ty_4 : TyI Try.prog 4 false 1 := ⟨by kernel_rfl⟩
instance ty_5 : TyI Try.prog 5 false 1 := ⟨by kernel_rfl⟩
instance ty_9 : TyI Try.prog 9 false 1 := ⟨by kernel_rfl⟩
instance ty_24 : TyI Try.prog 24 false 1 := ⟨by kernel_rfl⟩
instance ty_32 : TyI Try.prog 32 true 9 := ⟨by kernel_rfl⟩
instance ty_33 : TyI Try.prog 33 true 3 := ⟨by kernel_rfl⟩
instance ty_35 : TyI Try.prog 35 true 17 := ⟨by kernel_rfl⟩
instance ty_61 : TyI Try.prog 61 false 1 := ⟨by kernel_rfl⟩
instance ty_84 : TyI Try.prog 84 true 6 := ⟨by kernel_rfl⟩
instance ty_116 : TyI Try.prog 116 false 1 := ⟨by kernel_rfl⟩
instance ty_118 : TyI Try.prog 118 true 3 := ⟨by kernel_rfl⟩
instance ty_129 : TyI Try.prog 129 true 4 := ⟨by kernel_rfl⟩
instance ty_160 : TyI Try.prog 160 true 15 := ⟨by kernel_rfl⟩
instance fld_32_0 : FldI Try.prog 32 0 0 2 false 1 := ⟨by kernel_rfl⟩
instance fld_32_1 : FldI Try.prog 32 1 1 2 false 1 := ⟨by kernel_rfl⟩
instance fld_32_2 : FldI Try.prog 32 2 2 4 false 1 := ⟨by kernel_rfl⟩
instance fld_32_3 : FldI Try.prog 32 3 3 4 false 1 := ⟨by kernel_rfl⟩
instance fld_32_4 : FldI Try.prog 32 4 4 4 false 1 := ⟨by kernel_rfl⟩
instance fld_32_5 : FldI Try.prog 32 5 5 4 false 1 := ⟨by kernel_rfl⟩
instance fld_32_6 : FldI Try.prog 32 6 6 4 false 1 := ⟨by kernel_rfl⟩
instance fld_32_7 : FldI Try.prog 32 7 7 2 false 1 := ⟨by kernel_rfl⟩
instance fld_32_8 : FldI Try.prog 32 8 8 2 false 1 := ⟨by kernel_rfl⟩
instance fld_33_0 : FldI Try.prog 33 0 0 24 false 1 := ⟨by kernel_rfl⟩
instance fld_33_1 : FldI Try.prog 33 1 1 24 false 1 := ⟨by kernel_rfl⟩
instance fld_33_2 : FldI Try.prog 33 2 2 2 false 1 := ⟨by kernel_rfl⟩
instance fld_35_0 : FldI Try.prog 35 0 0 32 true 9 := ⟨by kernel_rfl⟩
instance fld_35_1 : FldI Try.prog 35 1 9 33 true 3 := ⟨by kernel_rfl⟩
instance fld_35_2 : FldI Try.prog 35 2 12 24 false 1 := ⟨by kernel_rfl⟩
instance fld_35_3 : FldI Try.prog 35 3 13 33 true 3 := ⟨by kernel_rfl⟩
instance fld_35_4 : FldI Try.prog 35 4 16 2 false 1 := ⟨by kernel_rfl⟩
instance fld_84_0 : FldI Try.prog 84 0 0 2 false 1 := ⟨by kernel_rfl⟩
instance fld_84_1 : FldI Try.prog 84 1 1 2 false 1 := ⟨by kernel_rfl⟩
instance fld_84_2 : FldI Try.prog 84 2 2 4 false 1 := ⟨by kernel_rfl⟩
instance fld_84_3 : FldI Try.prog 84 3 3 33 true 3 := ⟨by kernel_rfl⟩
instance fld_118_0 : FldI Try.prog 118 0 0 61 false 1 := ⟨by kernel_rfl⟩
instance fld_118_1 : FldI Try.prog 118 1 1 3 false 1 := ⟨by kernel_rfl⟩
instance fld_118_2 : FldI Try.prog 118 2 2 116 false 1 := ⟨by kernel_rfl⟩
instance fld_129_0 : FldI Try.prog 129 0 0 24 false 1 := ⟨by kernel_rfl⟩
instance fld_129_1 : FldI Try.prog 129 1 1 24 false 1 := ⟨by kernel_rfl⟩
instance fld_129_2 : FldI Try.prog 129 2 2 2 false 1 := ⟨by kernel_rfl⟩
instance fld_129_3 : FldI Try.prog 129 3 3 2 false 1 := ⟨by kernel_rfl⟩
instance fld_160_0 : FldI Try.prog 160 0 0 32 true 9 := ⟨by kernel_rfl⟩
instance fld_160_1 : FldI Try.prog 160 1 9 2 false 1 := ⟨by kernel_rfl⟩
instance fld_160_2 : FldI Try.prog 160 2 10 129 true 4 := ⟨by kernel_rfl⟩
instance fld_160_3 : FldI Try.prog 160 3 14 24 false 1 := ⟨by kernel_rfl⟩
instance eI_24 : ElI Try.prog 24 2 1 8 [.int .i64 0] := ⟨by kernel_rfl⟩
theorem el_24 : elOf Try.prog 24 = some (2, 1, 8, [.int .i64 0]) := ElI.h
instance eI_44 : ElI Try.prog 44 33 3 56 [.slice none 0 0, .slice none 0 0, .int .i64 0] := ⟨by kernel_rfl⟩
theorem el_44 : elOf Try.prog 44 = some (33, 3, 56, [.slice none 0 0, .slice none 0 0, .int .i64 0]) := ElI.h
instance eI_61 : ElI Try.prog 61 5 1 1 [.int .u8 0] := ⟨by kernel_rfl⟩
theorem el_61 : elOf Try.prog 61 = some (5, 1, 1, [.int .u8 0]) := ElI.h
instance eI_74 : ElI Try.prog 74 84 6 80 [.int .i64 0, .int .i64 0, .bool false, .slice none 0 0, .slice none 0 0, .int .i64 0] := ⟨by kernel_rfl⟩
theorem el_74 : elOf Try.prog 74 = some (84, 6, 80, [.int .i64 0, .int .i64 0, .bool false, .slice none 0 0, .slice none 0 0, .int .i64 0]) := ElI.h
instance eI_144 : ElI Try.prog 144 9 1 16 [.string ByteArray.empty] := ⟨by kernel_rfl⟩
theorem el_144 : elOf Try.prog 144 = some (9, 1, 16, [.string ByteArray.empty]) := ElI.h
instance zero_32 : ZeroI Try.prog 32 [.int .i64 0, .int .i64 0, .bool false, .bool false, .bool false, .bool false, .bool false, .int .i64 0, .int .i64 0] := ⟨by kernel_rfl⟩
instance zero_33 : ZeroI Try.prog 33 [.slice none 0 0, .slice none 0 0, .int .i64 0] := ⟨by kernel_rfl⟩
instance zero_35 : ZeroI Try.prog 35 [.int .i64 0, .int .i64 0, .bool false, .bool false, .bool false, .bool false, .bool false, .int .i64 0, .int .i64 0, .slice none 0 0, .slice none 0 0, .int .i64 0, .slice none 0 0, .slice none 0 0, .slice none 0 0, .int .i64 0, .int .i64 0] := ⟨by kernel_rfl⟩
instance zero_84 : ZeroI Try.prog 84 [.int .i64 0, .int .i64 0, .bool false, .slice none 0 0, .slice none 0 0, .int .i64 0] := ⟨by kernel_rfl⟩
instance zero_118 : ZeroI Try.prog 118 [.slice none 0 0, .int .i64 0, .int .u64 0] := ⟨by kernel_rfl⟩
instance zero_129 : ZeroI Try.prog 129 [.slice none 0 0, .slice none 0 0, .int .i64 0, .int .i64 0] := ⟨by kernel_rfl⟩
instance zero_160 : ZeroI Try.prog 160 [.int .i64 0, .int .i64 0, .bool false, .bool false, .bool false, .bool false, .bool false, .int .i64 0, .int .i64 0, .int .i64 0, .slice none 0 0, .slice none 0 0, .int .i64 0, .int .i64 0, .slice none 0 0] := ⟨by kernel_rfl⟩
instance flds_32 : FldsI Try.prog 32 [(0, 1), (1, 1), (2, 1), (3, 1), (4, 1), (5, 1), (6, 1), (7, 1), (8, 1)] := ⟨by kernel_rfl⟩
instance flds_33 : FldsI Try.prog 33 [(0, 1), (1, 1), (2, 1)] := ⟨by kernel_rfl⟩
instance flds_35 : FldsI Try.prog 35 [(0, 9), (9, 3), (12, 1), (13, 3), (16, 1)] := ⟨by kernel_rfl⟩
instance flds_84 : FldsI Try.prog 84 [(0, 1), (1, 1), (2, 1), (3, 3)] := ⟨by kernel_rfl⟩
instance flds_118 : FldsI Try.prog 118 [(0, 1), (1, 1), (2, 1)] := ⟨by kernel_rfl⟩
instance flds_129 : FldsI Try.prog 129 [(0, 1), (1, 1), (2, 1), (3, 1)] := ⟨by kernel_rfl⟩
instance flds_160 : FldsI Try.prog 160 [(0, 9), (9, 1), (10, 4), (14, 1)] := ⟨by kernel_rfl⟩
instance fn_38 : FnI Try.prog 38 := ⟨by kernel_rfl⟩
instance fn_39 : FnI Try.prog 39 := ⟨by kernel_rfl⟩
instance fn_42 : FnI Try.prog 42 := ⟨by kernel_rfl⟩
instance fn_43 : FnI Try.prog 43 := ⟨by kernel_rfl⟩
instance fn_58 : FnI Try.prog 58 := ⟨by kernel_rfl⟩
instance fn_59 : FnI Try.prog 59 := ⟨by kernel_rfl⟩
instance fn_60 : FnI Try.prog 60 := ⟨by kernel_rfl⟩
instance fn_61 : FnI Try.prog 61 := ⟨by kernel_rfl⟩
instance fn_62 : FnI Try.prog 62 := ⟨by kernel_rfl⟩
instance fn_63 : FnI Try.prog 63 := ⟨by kernel_rfl⟩
instance fn_64 : FnI Try.prog 64 := ⟨by kernel_rfl⟩
instance fn_65 : FnI Try.prog 65 := ⟨by kernel_rfl⟩
instance fn_68 : FnI Try.prog 68 := ⟨by kernel_rfl⟩
instance fn_72 : FnI Try.prog 72 := ⟨by kernel_rfl⟩
instance fn_75 : FnI Try.prog 75 := ⟨by kernel_rfl⟩
instance fn_76 : FnI Try.prog 76 := ⟨by kernel_rfl⟩
instance fn_77 : FnI Try.prog 77 := ⟨by kernel_rfl⟩
instance fn_78 : FnI Try.prog 78 := ⟨by kernel_rfl⟩
instance fn_79 : FnI Try.prog 79 := ⟨by kernel_rfl⟩
instance fn_80 : FnI Try.prog 80 := ⟨by kernel_rfl⟩
instance fn_81 : FnI Try.prog 81 := ⟨by kernel_rfl⟩
instance fn_82 : FnI Try.prog 82 := ⟨by kernel_rfl⟩
instance fn_85 : FnI Try.prog 85 := ⟨by kernel_rfl⟩
instance fn_86 : FnI Try.prog 86 := ⟨by kernel_rfl⟩
instance fn_91 : FnI Try.prog 91 := ⟨by kernel_rfl⟩
instance fn_92 : FnI Try.prog 92 := ⟨by kernel_rfl⟩
instance fn_93 : FnI Try.prog 93 := ⟨by kernel_rfl⟩
instance fn_94 : FnI Try.prog 94 := ⟨by kernel_rfl⟩
instance fn_95 : FnI Try.prog 95 := ⟨by kernel_rfl⟩
instance fn_96 : FnI Try.prog 96 := ⟨by kernel_rfl⟩
instance fn_97 : FnI Try.prog 97 := ⟨by kernel_rfl⟩
instance fn_98 : FnI Try.prog 98 := ⟨by kernel_rfl⟩
instance fn_99 : FnI Try.prog 99 := ⟨by kernel_rfl⟩
instance fn_100 : FnI Try.prog 100 := ⟨by kernel_rfl⟩
instance fn_101 : FnI Try.prog 101 := ⟨by kernel_rfl⟩
instance fn_102 : FnI Try.prog 102 := ⟨by kernel_rfl⟩
instance fn_103 : FnI Try.prog 103 := ⟨by kernel_rfl⟩
instance fn_104 : FnI Try.prog 104 := ⟨by kernel_rfl⟩
instance fn_105 : FnI Try.prog 105 := ⟨by kernel_rfl⟩
instance fn_106 : FnI Try.prog 106 := ⟨by kernel_rfl⟩
instance fn_110 : FnI Try.prog 110 := ⟨by kernel_rfl⟩
instance fn_115 : FnI Try.prog 115 := ⟨by kernel_rfl⟩
instance fn_116 : FnI Try.prog 116 := ⟨by kernel_rfl⟩
instance fn_117 : FnI Try.prog 117 := ⟨by kernel_rfl⟩
instance fn_118 : FnI Try.prog 118 := ⟨by kernel_rfl⟩
instance fn_119 : FnI Try.prog 119 := ⟨by kernel_rfl⟩
instance fn_120 : FnI Try.prog 120 := ⟨by kernel_rfl⟩
instance fn_121 : FnI Try.prog 121 := ⟨by kernel_rfl⟩
instance fn_122 : FnI Try.prog 122 := ⟨by kernel_rfl⟩
instance fn_123 : FnI Try.prog 123 := ⟨by kernel_rfl⟩
instance fn_124 : FnI Try.prog 124 := ⟨by kernel_rfl⟩
instance fn_125 : FnI Try.prog 125 := ⟨by kernel_rfl⟩
instance fn_126 : FnI Try.prog 126 := ⟨by kernel_rfl⟩
instance fn_127 : FnI Try.prog 127 := ⟨by kernel_rfl⟩
instance fn_128 : FnI Try.prog 128 := ⟨by kernel_rfl⟩
instance fn_129 : FnI Try.prog 129 := ⟨by kernel_rfl⟩
instance fn_130 : FnI Try.prog 130 := ⟨by kernel_rfl⟩
instance fn_132 : FnI Try.prog 132 := ⟨by kernel_rfl⟩
instance fn_134 : FnI Try.prog 134 := ⟨by kernel_rfl⟩
instance fn_135 : FnI Try.prog 135 := ⟨by kernel_rfl⟩
instance fn_136 : FnI Try.prog 136 := ⟨by kernel_rfl⟩
instance fn_137 : FnI Try.prog 137 := ⟨by kernel_rfl⟩
instance fn_138 : FnI Try.prog 138 := ⟨by kernel_rfl⟩
instance fn_139 : FnI Try.prog 139 := ⟨by kernel_rfl⟩
instance fn_140 : FnI Try.prog 140 := ⟨by kernel_rfl⟩
instance fn_141 : FnI Try.prog 141 := ⟨by kernel_rfl⟩
instance fn_142 : FnI Try.prog 142 := ⟨by kernel_rfl⟩
instance fn_143 : FnI Try.prog 143 := ⟨by kernel_rfl⟩
instance fn_144 : FnI Try.prog 144 := ⟨by kernel_rfl⟩
instance fn_145 : FnI Try.prog 145 := ⟨by kernel_rfl⟩
instance fn_146 : FnI Try.prog 146 := ⟨by kernel_rfl⟩
instance fn_147 : FnI Try.prog 147 := ⟨by kernel_rfl⟩
instance fn_148 : FnI Try.prog 148 := ⟨by kernel_rfl⟩
instance fn_149 : FnI Try.prog 149 := ⟨by kernel_rfl⟩
instance fn_150 : FnI Try.prog 150 := ⟨by kernel_rfl⟩
instance fn_151 : FnI Try.prog 151 := ⟨by kernel_rfl⟩
instance fn_152 : FnI Try.prog 152 := ⟨by kernel_rfl⟩
instance fn_153 : FnI Try.prog 153 := ⟨by kernel_rfl⟩
instance fn_154 : FnI Try.prog 154 := ⟨by kernel_rfl⟩
instance fn_155 : FnI Try.prog 155 := ⟨by kernel_rfl⟩
instance fn_156 : FnI Try.prog 156 := ⟨by kernel_rfl⟩
instance fn_157 : FnI Try.prog 157 := ⟨by kernel_rfl⟩
instance fn_158 : FnI Try.prog 158 := ⟨by kernel_rfl⟩
instance fn_159 : FnI Try.prog 159 := ⟨by kernel_rfl⟩
instance fn_160 : FnI Try.prog 160 := ⟨by kernel_rfl⟩
instance fn_161 : FnI Try.prog 161 := ⟨by kernel_rfl⟩
instance fn_162 : FnI Try.prog 162 := ⟨by kernel_rfl⟩
instance fn_163 : FnI Try.prog 163 := ⟨by kernel_rfl⟩
instance fn_164 : FnI Try.prog 164 := ⟨by kernel_rfl⟩
instance fn_165 : FnI Try.prog 165 := ⟨by kernel_rfl⟩
instance fn_166 : FnI Try.prog 166 := ⟨by kernel_rfl⟩
instance uI_4 : UndI Try.prog 4 (.bool) := ⟨@Try.underlying4⟩
theorem und_4 : Try.prog.underlying 4 = some (.bool) := UndI.h
instance uI_9 : UndI Try.prog 9 (.string) := ⟨@Try.underlying9⟩
theorem und_9 : Try.prog.underlying 9 = some (.string) := UndI.h
instance uI_10 : UndI Try.prog 10 (.string) := ⟨@Try.underlying10⟩
instance uI_11 : UndI Try.prog 11 (.string) := ⟨@Try.underlying11⟩
instance uI_24 : UndI Try.prog 24 (.slice 2) := ⟨@Try.underlying24⟩
theorem und_24 : Try.prog.underlying 24 = some (.slice 2) := UndI.h
instance uI_44 : UndI Try.prog 44 (.slice 33) := ⟨@Try.underlying44⟩
theorem und_44 : Try.prog.underlying 44 = some (.slice 33) := UndI.h
instance uI_61 : UndI Try.prog 61 (.slice 5) := ⟨@Try.underlying61⟩
instance uI_74 : UndI Try.prog 74 (.slice 84) := ⟨@Try.underlying74⟩
theorem und_74 : Try.prog.underlying 74 = some (.slice 84) := UndI.h
instance uI_144 : UndI Try.prog 144 (.slice 9) := ⟨@Try.underlying144⟩
instance mixI : MixI Try.prog := ⟨by kernel_rfl⟩
@[reducible] def cRules (x : M.Rul) : List Ty := [Ty.int x.pits, Ty.int x.seeds, Ty.bool x.stores, Ty.bool x.skip, Ty.bool x.relay, Ty.bool x.feed, Ty.bool x.again, Ty.int x.capture, Ty.int x.slam]
def lRules (xs : List M.Rul) : List Ty := xs.flatMap cRules
theorem lRules_length (xs : List M.Rul) : (lRules xs).length = xs.length * 9 := flat_len cRules 9 (fun _ => rfl) xs
instance : LenL lRules 9 := ⟨lRules_length⟩
set_option maxRecDepth 100000 in
theorem eqs_Rules (a b : M.Rul) (w : World) : (Op.equalIn 10000 32 (.agg #[.int .i64 a.pits, .int .i64 a.seeds, .bool a.stores, .bool a.skip, .bool a.relay, .bool a.feed, .bool a.again, .int .i64 a.capture, .int .i64 a.slam]) (.agg #[.int .i64 b.pits, .int .i64 b.seeds, .bool b.stores, .bool b.skip, .bool b.relay, .bool b.feed, .bool b.again, .int .i64 b.capture, .int .i64 b.slam])).run Try.prog w = .ok (decide (a = b)) w := by
  have u2 := Try.underlying2
  have u4 := Try.underlying4
  have i2 := run_equalIn_int (P := Try.prog) (d := 9998) (t := 2) (k := .i64) (k' := .i64) (h := u2)
  have i4 := run_equalIn_bool (P := Try.prog) 9998 (t := 4) u4
  rw [show (10000 : Nat) = 9999 + 1 from rfl, run_equalIn_agg w 9999 32 _ _ (by kernel_rfl) (by kernel_rfl)]
  simp only [Program.fieldsOf, Try.underlying32]
  go_simp
  by_cases h : a = b
  · subst h; simp
  rw [decide_eq_false h]
  by_cases h0 : a.pits = b.pits
  case neg => rw [if_neg h0]
  rw [if_pos h0]
  by_cases h1 : a.seeds = b.seeds
  case neg => rw [if_neg h1]
  rw [if_pos h1]
  by_cases h2 : a.stores = b.stores
  case neg => rw [if_neg h2]
  rw [if_pos h2]
  by_cases h3 : a.skip = b.skip
  case neg => rw [if_neg h3]
  rw [if_pos h3]
  by_cases h4 : a.relay = b.relay
  case neg => rw [if_neg h4]
  rw [if_pos h4]
  by_cases h5 : a.feed = b.feed
  case neg => rw [if_neg h5]
  rw [if_pos h5]
  by_cases h6 : a.again = b.again
  case neg => rw [if_neg h6]
  rw [if_pos h6]
  by_cases h7 : a.capture = b.capture
  case neg => rw [if_neg h7]
  rw [if_pos h7]
  by_cases h8 : a.slam = b.slam
  case neg => rw [if_neg h8]
  rw [if_pos h8]
  exact absurd (by cases a; cases b; simp_all) h
@[reducible] def cPosition (x : M.Pos) : List Ty := [Ty.ints 2 x.pits, Ty.ints 2 x.stores, Ty.int x.player]
def lPosition (xs : List M.Pos) : List Ty := xs.flatMap cPosition
theorem lPosition_length (xs : List M.Pos) : (lPosition xs).length = xs.length * 3 := flat_len cPosition 3 (fun _ => rfl) xs
instance : LenL lPosition 3 := ⟨lPosition_length⟩
theorem elem_Position {u : World} {e c i : Nat} {A : Option Addr} {xs : List M.Pos} {x : M.Pos} (h : (Ty.sl e 3 xs.length (lPosition xs)).ok u (.slice A xs.length c)) (hi : xs[i]? = some x) : ∃ b o A0 c0 A1 c1, elemA 3 (.slice A xs.length c) i = some ⟨b, o, none⟩ ∧ RowAt u b o [.slice A0 x.pits.length c0, .slice A1 x.stores.length c1, .int .i64 x.player] ∧ (Ty.ints 2 x.pits).ok u (.slice A0 x.pits.length c0) ∧ (Ty.ints 2 x.stores).ok u (.slice A1 x.stores.length c1) ∧ x.pits.length ≤ c0 ∧ c0 ≤ 9223372036854775807 ∧ x.stores.length ≤ c1 ∧ c1 ≤ 9223372036854775807 := by
  obtain ⟨b, o, vs, he, h, hr⟩ := sl_elem h (List.getElem?_eq_some_iff.1 hi).1 rfl
  have e := drop_flat cPosition 3 (fun _ => rfl) xs i x hi
  unfold lPosition at h
  rw [e] at h
  obtain ⟨x0, r, rfl, h0, h⟩ := cellsOk_cons h
  obtain ⟨x1, r, rfl, h1, h⟩ := cellsOk_cons h
  obtain ⟨x2, r, rfl, h2, h⟩ := cellsOk_cons h
  obtain rfl := cellsOk_nil h
  obtain ⟨A0, c0, rfl, b0, d0⟩ := sl_form h0
  obtain ⟨A1, c1, rfl, b1, d1⟩ := sl_form h1
  obtain rfl : x2 = .int .i64 x.player := h2
  exact ⟨b, o, A0, c0, A1, c1, he, hr, h0, h1, b0, d0, b1, d1⟩
theorem elemv_Position {w : World} {i : Nat} {xs : List M.Pos} {x : M.Pos} {vs : List Value} (h : cellsOk w (lPosition xs) vs) (hi : xs[i]? = some x) : ∃ A0 c0 A1 c1, (vs.drop (0 + i * 3)).take 3 = [.slice A0 x.pits.length c0, .slice A1 x.stores.length c1, .int .i64 x.player] ∧ x.pits.length ≤ c0 ∧ c0 ≤ 9223372036854775807 ∧ x.stores.length ≤ c1 ∧ c1 ≤ 9223372036854775807 := by
  rw [Nat.zero_add]
  have h := cellsOk.take 3 (cellsOk.drop (i * 3) h)
  rw [lPosition, drop_flat cPosition 3 (fun _ => rfl) xs i x hi] at h
  generalize (vs.drop (i * 3)).take 3 = vs at h ⊢
  obtain ⟨x0, r, rfl, h0, h⟩ := cellsOk_cons h
  obtain ⟨x1, r, rfl, h1, h⟩ := cellsOk_cons h
  obtain ⟨x2, r, rfl, h2, h⟩ := cellsOk_cons h
  obtain rfl := cellsOk_nil h
  obtain ⟨A0, c0, rfl, b0, d0⟩ := sl_form h0
  obtain ⟨A1, c1, rfl, b1, d1⟩ := sl_form h1
  obtain rfl : x2 = .int .i64 x.player := h2
  exact ⟨A0, c0, A1, c1, rfl, b0, d0, b1, d1⟩
theorem lPosition_snoc (xs : List M.Pos) (x : M.Pos) : lPosition xs ++ cPosition x = lPosition (xs ++ [x]) := by simp [lPosition]
theorem unpack_Position {w : World} {x : M.Pos} {A0 A1 : Option Addr} {m0 m1 c0 c1 : Nat} {f : List Nat} (h : cellsOwn w (cPosition x) [.slice A0 m0 c0, .slice A1 m1 c1, .int .i64 x.player] f) : (rowO 2 1 (.slice A0 m0 c0) m0 (ints_ x.pits) []).pr w ∧ (rowO 2 1 (.slice A1 m1 c1) m1 (ints_ x.stores) []).pr w ∧ f = (rowO 2 1 (.slice A0 m0 c0) m0 (ints_ x.pits) []).fp ++ (rowO 2 1 (.slice A1 m1 c1) m1 (ints_ x.stores) []).fp := by
  obtain ⟨g0, r0, rfl, h0, h⟩ := h
  obtain ⟨g1, r1, rfl, h1, h⟩ := h
  obtain ⟨g2, r2, rfl, h2, h⟩ := h
  obtain rfl : _ = [] := h
  obtain ⟨_, rfl⟩ := h2
  have a := ints_open h0
  have b := ints_open h1
  exact ⟨a.1, b.1, by rw [← a.2, ← b.2]; simp⟩
@[reducible] def cSown (x : M.Sw) : List Ty := [Ty.ints 2 x.pits, Ty.ints 2 x.stores, Ty.int x.last, Ty.int x.laps]
def lSown (xs : List M.Sw) : List Ty := xs.flatMap cSown
theorem lSown_length (xs : List M.Sw) : (lSown xs).length = xs.length * 4 := flat_len cSown 4 (fun _ => rfl) xs
instance : LenL lSown 4 := ⟨lSown_length⟩
@[reducible] def csowing (x : M.Sow) : List Ty := [Ty.int x.rules.pits, Ty.int x.rules.seeds, Ty.bool x.rules.stores, Ty.bool x.rules.skip, Ty.bool x.rules.relay, Ty.bool x.rules.feed, Ty.bool x.rules.again, Ty.int x.rules.capture, Ty.int x.rules.slam, Ty.int x.player, Ty.ints 2 x.sown.pits, Ty.ints 2 x.sown.stores, Ty.int x.sown.last, Ty.int x.sown.laps, Ty.ints 2 x.path]
theorem ref_sowing {u : World} {v : Value} {x : M.Sow} (h : (Ty.ref (csowing x)).ok u v) : ∃ b o A10 c10 A11 c11 A14 c14, v = .pointer (some ⟨b, o, none⟩) ∧ RowAt u b o [.int .i64 x.rules.pits, .int .i64 x.rules.seeds, .bool x.rules.stores, .bool x.rules.skip, .bool x.rules.relay, .bool x.rules.feed, .bool x.rules.again, .int .i64 x.rules.capture, .int .i64 x.rules.slam, .int .i64 x.player, .slice A10 x.sown.pits.length c10, .slice A11 x.sown.stores.length c11, .int .i64 x.sown.last, .int .i64 x.sown.laps, .slice A14 x.path.length c14] ∧ (Ty.ints 2 x.sown.pits).ok u (.slice A10 x.sown.pits.length c10) ∧ (Ty.ints 2 x.sown.stores).ok u (.slice A11 x.sown.stores.length c11) ∧ (Ty.ints 2 x.path).ok u (.slice A14 x.path.length c14) ∧ x.sown.pits.length ≤ c10 ∧ c10 ≤ 9223372036854775807 ∧ x.sown.stores.length ≤ c11 ∧ c11 ≤ 9223372036854775807 ∧ x.path.length ≤ c14 ∧ c14 ≤ 9223372036854775807 := by
  obtain ⟨b, o, vs, rfl, h, hr⟩ := h
  obtain ⟨x0, r, rfl, h0, h⟩ := cellsOk_cons h
  obtain ⟨x1, r, rfl, h1, h⟩ := cellsOk_cons h
  obtain ⟨x2, r, rfl, h2, h⟩ := cellsOk_cons h
  obtain ⟨x3, r, rfl, h3, h⟩ := cellsOk_cons h
  obtain ⟨x4, r, rfl, h4, h⟩ := cellsOk_cons h
  obtain ⟨x5, r, rfl, h5, h⟩ := cellsOk_cons h
  obtain ⟨x6, r, rfl, h6, h⟩ := cellsOk_cons h
  obtain ⟨x7, r, rfl, h7, h⟩ := cellsOk_cons h
  obtain ⟨x8, r, rfl, h8, h⟩ := cellsOk_cons h
  obtain ⟨x9, r, rfl, h9, h⟩ := cellsOk_cons h
  obtain ⟨x10, r, rfl, h10, h⟩ := cellsOk_cons h
  obtain ⟨x11, r, rfl, h11, h⟩ := cellsOk_cons h
  obtain ⟨x12, r, rfl, h12, h⟩ := cellsOk_cons h
  obtain ⟨x13, r, rfl, h13, h⟩ := cellsOk_cons h
  obtain ⟨x14, r, rfl, h14, h⟩ := cellsOk_cons h
  obtain rfl := cellsOk_nil h
  obtain rfl : x0 = .int .i64 x.rules.pits := h0
  obtain rfl : x1 = .int .i64 x.rules.seeds := h1
  obtain rfl : x2 = .bool x.rules.stores := h2
  obtain rfl : x3 = .bool x.rules.skip := h3
  obtain rfl : x4 = .bool x.rules.relay := h4
  obtain rfl : x5 = .bool x.rules.feed := h5
  obtain rfl : x6 = .bool x.rules.again := h6
  obtain rfl : x7 = .int .i64 x.rules.capture := h7
  obtain rfl : x8 = .int .i64 x.rules.slam := h8
  obtain rfl : x9 = .int .i64 x.player := h9
  obtain ⟨A10, c10, rfl, b10, d10⟩ := sl_form h10
  obtain ⟨A11, c11, rfl, b11, d11⟩ := sl_form h11
  obtain rfl : x12 = .int .i64 x.sown.last := h12
  obtain rfl : x13 = .int .i64 x.sown.laps := h13
  obtain ⟨A14, c14, rfl, b14, d14⟩ := sl_form h14
  exact ⟨b, o, A10, c10, A11, c11, A14, c14, rfl, hr, h10, h11, h14, b10, d10, b11, d11, b14, d14⟩
def lsowing (xs : List M.Sow) : List Ty := xs.flatMap csowing
theorem lsowing_length (xs : List M.Sow) : (lsowing xs).length = xs.length * 15 := flat_len csowing 15 (fun _ => rfl) xs
instance : LenL lsowing 15 := ⟨lsowing_length⟩
@[reducible] def cResult (x : M.Res) : List Ty := [Ty.int x.move, Ty.int x.gain, Ty.bool x.again, Ty.ints 2 x.next.pits, Ty.ints 2 x.next.stores, Ty.int x.next.player]
def lResult (xs : List M.Res) : List Ty := xs.flatMap cResult
theorem lResult_length (xs : List M.Res) : (lResult xs).length = xs.length * 6 := flat_len cResult 6 (fun _ => rfl) xs
instance : LenL lResult 6 := ⟨lResult_length⟩
theorem elem_Result {u : World} {e c i : Nat} {A : Option Addr} {xs : List M.Res} {x : M.Res} (h : (Ty.sl e 6 xs.length (lResult xs)).ok u (.slice A xs.length c)) (hi : xs[i]? = some x) : ∃ b o A3 c3 A4 c4, elemA 6 (.slice A xs.length c) i = some ⟨b, o, none⟩ ∧ RowAt u b o [.int .i64 x.move, .int .i64 x.gain, .bool x.again, .slice A3 x.next.pits.length c3, .slice A4 x.next.stores.length c4, .int .i64 x.next.player] ∧ (Ty.ints 2 x.next.pits).ok u (.slice A3 x.next.pits.length c3) ∧ (Ty.ints 2 x.next.stores).ok u (.slice A4 x.next.stores.length c4) ∧ x.next.pits.length ≤ c3 ∧ c3 ≤ 9223372036854775807 ∧ x.next.stores.length ≤ c4 ∧ c4 ≤ 9223372036854775807 := by
  obtain ⟨b, o, vs, he, h, hr⟩ := sl_elem h (List.getElem?_eq_some_iff.1 hi).1 rfl
  have e := drop_flat cResult 6 (fun _ => rfl) xs i x hi
  unfold lResult at h
  rw [e] at h
  obtain ⟨x0, r, rfl, h0, h⟩ := cellsOk_cons h
  obtain ⟨x1, r, rfl, h1, h⟩ := cellsOk_cons h
  obtain ⟨x2, r, rfl, h2, h⟩ := cellsOk_cons h
  obtain ⟨x3, r, rfl, h3, h⟩ := cellsOk_cons h
  obtain ⟨x4, r, rfl, h4, h⟩ := cellsOk_cons h
  obtain ⟨x5, r, rfl, h5, h⟩ := cellsOk_cons h
  obtain rfl := cellsOk_nil h
  obtain rfl : x0 = .int .i64 x.move := h0
  obtain rfl : x1 = .int .i64 x.gain := h1
  obtain rfl : x2 = .bool x.again := h2
  obtain ⟨A3, c3, rfl, b3, d3⟩ := sl_form h3
  obtain ⟨A4, c4, rfl, b4, d4⟩ := sl_form h4
  obtain rfl : x5 = .int .i64 x.next.player := h5
  exact ⟨b, o, A3, c3, A4, c4, he, hr, h3, h4, b3, d3, b4, d4⟩
theorem elemv_Result {w : World} {i : Nat} {xs : List M.Res} {x : M.Res} {vs : List Value} (h : cellsOk w (lResult xs) vs) (hi : xs[i]? = some x) : ∃ A3 c3 A4 c4, (vs.drop (0 + i * 6)).take 6 = [.int .i64 x.move, .int .i64 x.gain, .bool x.again, .slice A3 x.next.pits.length c3, .slice A4 x.next.stores.length c4, .int .i64 x.next.player] ∧ x.next.pits.length ≤ c3 ∧ c3 ≤ 9223372036854775807 ∧ x.next.stores.length ≤ c4 ∧ c4 ≤ 9223372036854775807 := by
  rw [Nat.zero_add]
  have h := cellsOk.take 6 (cellsOk.drop (i * 6) h)
  rw [lResult, drop_flat cResult 6 (fun _ => rfl) xs i x hi] at h
  generalize (vs.drop (i * 6)).take 6 = vs at h ⊢
  obtain ⟨x0, r, rfl, h0, h⟩ := cellsOk_cons h
  obtain ⟨x1, r, rfl, h1, h⟩ := cellsOk_cons h
  obtain ⟨x2, r, rfl, h2, h⟩ := cellsOk_cons h
  obtain ⟨x3, r, rfl, h3, h⟩ := cellsOk_cons h
  obtain ⟨x4, r, rfl, h4, h⟩ := cellsOk_cons h
  obtain ⟨x5, r, rfl, h5, h⟩ := cellsOk_cons h
  obtain rfl := cellsOk_nil h
  obtain rfl : x0 = .int .i64 x.move := h0
  obtain rfl : x1 = .int .i64 x.gain := h1
  obtain rfl : x2 = .bool x.again := h2
  obtain ⟨A3, c3, rfl, b3, d3⟩ := sl_form h3
  obtain ⟨A4, c4, rfl, b4, d4⟩ := sl_form h4
  obtain rfl : x5 = .int .i64 x.next.player := h5
  exact ⟨A3, c3, A4, c4, rfl, b3, d3, b4, d4⟩
theorem lResult_snoc (xs : List M.Res) (x : M.Res) : lResult xs ++ cResult x = lResult (xs ++ [x]) := by simp [lResult]
theorem pack_Result {w : World} {x : M.Res} {v1 v2 : Value} {f1 f2 : List Nat} (h1 : (Ty.ints 2 x.next.pits).own w v1 f1) (h2 : (Ty.ints 2 x.next.stores).own w v2 f2) : cellsOwn w (cResult x) [.int .i64 x.move, .int .i64 x.gain, .bool x.again, v1, v2, .int .i64 x.next.player] (f1 ++ f2) :=
  ⟨[], f1 ++ f2, rfl, ⟨rfl, rfl⟩, ⟨[], f1 ++ f2, rfl, ⟨rfl, rfl⟩, ⟨[], f1 ++ f2, rfl, ⟨rfl, rfl⟩, ⟨f1, f2, rfl, h1, ⟨f2, [], (List.append_nil _).symm, h2, ⟨[], [], rfl, ⟨rfl, rfl⟩, rfl⟩⟩⟩⟩⟩⟩
@[reducible] def cResultL (x : M.Res) : List Ty := [Ty.int x.move, Ty.int x.gain, Ty.bool x.again, Ty.any, Ty.any, Ty.any]
def lResultL (xs : List M.Res) : List Ty := xs.flatMap cResultL
theorem lResultL_length (xs : List M.Res) : (lResultL xs).length = xs.length * 6 := flat_len cResultL 6 (fun _ => rfl) xs
instance : LenL lResultL 6 := ⟨lResultL_length⟩
theorem lResultL_snoc (xs : List M.Res) (x : M.Res) : lResultL xs ++ cResultL x = lResultL (xs ++ [x]) := by simp [lResultL]
@[reducible] def cGameL (x : M.Gam) : List Ty := [Ty.int x.rules.pits, Ty.int x.rules.seeds, Ty.bool x.rules.stores, Ty.bool x.rules.skip, Ty.bool x.rules.relay, Ty.bool x.rules.feed, Ty.bool x.rules.again, Ty.int x.rules.capture, Ty.int x.rules.slam, Ty.ints 2 x.start.pits, Ty.ints 2 x.start.stores, Ty.int x.start.player, Ty.ro 2 x.moves, Ty.ints 2 x.now.pits, Ty.ints 2 x.now.stores, Ty.int x.now.player, Ty.int x.resigned]
def lGameL (xs : List M.Gam) : List Ty := xs.flatMap cGameL
theorem lGameL_length (xs : List M.Gam) : (lGameL xs).length = xs.length * 17 := flat_len cGameL 17 (fun _ => rfl) xs
instance : LenL lGameL 17 := ⟨lGameL_length⟩
@[reducible] def cGame (x : M.Gam) : List Ty := [Ty.int x.rules.pits, Ty.int x.rules.seeds, Ty.bool x.rules.stores, Ty.bool x.rules.skip, Ty.bool x.rules.relay, Ty.bool x.rules.feed, Ty.bool x.rules.again, Ty.int x.rules.capture, Ty.int x.rules.slam, Ty.ints 2 x.start.pits, Ty.ints 2 x.start.stores, Ty.int x.start.player, Ty.ints 2 x.moves, Ty.ints 2 x.now.pits, Ty.ints 2 x.now.stores, Ty.int x.now.player, Ty.int x.resigned]
def lGame (xs : List M.Gam) : List Ty := xs.flatMap cGame
theorem lGame_length (xs : List M.Gam) : (lGame xs).length = xs.length * 17 := flat_len cGame 17 (fun _ => rfl) xs
instance : LenL lGame 17 := ⟨lGame_length⟩
end Go.Proofs.Ytejnmechnhgmfaa

/- The table of types of the program, and what the types of the model are. -/
import Derived.Test.YtjgohnaobbphpaaGreatDoorZdA2
import Derived.Test.YtjgohnaobbphpaaGreatDoorZdA3
import Derived.Test.YtjgohnaobbphpaaGreatDoorProg
import Derived.ProofKit
import Derived.SizedLaws
import Derived.Test.YtjgohnaobbphpaaGreatDoorZdA1
import Derived.Laws.IdiomStrings
import Derived.Laws.IdiomCopy
import Derived.Laws.Slices
import Derived.Laws.Strings2
set_option linter.unusedSimpArgs false
set_option linter.unusedVariables false
set_option maxHeartbeats 2000000
namespace Go.Proofs.YtjgohnaobbphpaaGreatDoor
open Go.RowKit
theorem a0f{w:World}{T:Ty}{Ts:List Ty}:∀ {vs:List Value},cellsOk w (T::Ts) vs->∃ x r,vs=x::r/\T.ok w x/\cellsOk w Ts r
  | x::r,h=>⟨x,r,rfl,h.1,h.2⟩
theorem a1t{w:World}:∀ {vs:List Value},cellsOk w [] vs->vs=[]
  | [],_=>rfl
theorem a1m{w:World}{T:Ty}{Ts:List Ty}{fp:List Nat}:∀ {vs:List Value},cellsOwn w (T::Ts) vs fp->∃ x r f1 f2,vs=x::r/\fp=f1++f2/\T.own w x f1/\cellsOwn w Ts r f2
  | x::r,⟨f1,f2,e,a,b⟩=>⟨x,r,f1,f2,rfl,e,a,b⟩
theorem a5c{w:World}{fp:List Nat}:∀ {vs:List Value},cellsOwn w [] vs fp->vs=[]/\fp=[]
  | [],h=>⟨rfl,h⟩
theorem a5h{α β:Type}(f:α->List β)(k:Nat)(hf:∀ a,(f a).length=k):∀ (l:List α) (i:Nat) (a:α),l[i]?=some a->((l.flatMap f).drop (i * k)).take k=f a
  | x::l,0,a,h=>by
    simp at h;subst h
    simp[List.flatMap_cons,hf,List.take_append]
  | x::l,i + 1,a,h=>by
    simp at h
    rw[List.flatMap_cons,Nat.succ_mul,Nat.add_comm,<- List.drop_drop,List.drop_left' (hf x)]
    exact a5h f k hf l i a h
  | [],_,_,h=>by simp at h
theorem a1q{α β:Type}(f:α->List β)(k:Nat)(hf:∀ a,(f a).length=k):∀ (l:List α),(l.flatMap f).length=l.length * k
  | []=>by simp
  | x::l=>by rw[List.flatMap_cons,List.length_append,hf,a1q f k hf l,List.length_cons,Nat.succ_mul,Nat.add_comm]
instance ty_2:TyI Tryz.prog 2 false 1:=⟨by kernel_rfl⟩
instance ty_3:TyI Tryz.prog 3 false 1:=⟨by kernel_rfl⟩
instance ty_4:TyI Tryz.prog 4 false 1:=⟨by kernel_rfl⟩
instance ty_5:TyI Tryz.prog 5 false 1:=⟨by kernel_rfl⟩
instance ty_9:TyI Tryz.prog 9 false 1:=⟨by kernel_rfl⟩
instance ty_22:TyI Tryz.prog 22 false 1:=⟨by kernel_rfl⟩
instance ty_25:TyI Tryz.prog 25 true 9:=⟨by kernel_rfl⟩
instance ty_26:TyI Tryz.prog 26 false 1:=⟨by kernel_rfl⟩
instance ty_28:TyI Tryz.prog 28 true 3:=⟨by kernel_rfl⟩
instance ty_53:TyI Tryz.prog 53 true 17:=⟨by kernel_rfl⟩
instance ty_75:TyI Tryz.prog 75 true 4:=⟨by kernel_rfl⟩
instance ty_77:TyI Tryz.prog 77 true 15:=⟨by kernel_rfl⟩
instance ty_109:TyI Tryz.prog 109 true 6:=⟨by kernel_rfl⟩
instance ty_114:TyI Tryz.prog 114 true 7:=⟨by kernel_rfl⟩
instance ty_139:TyI Tryz.prog 139 false 1:=⟨by kernel_rfl⟩
instance ty_141:TyI Tryz.prog 141 true 3:=⟨by kernel_rfl⟩
instance ty_157:TyI Tryz.prog 157 true 17:=⟨by kernel_rfl⟩
instance ty_195:TyI Tryz.prog 195 true 3:=⟨by kernel_rfl⟩
instance b8d:TyI Tryz.prog 215 false 1:=⟨by kernel_rfl⟩
instance ty_242:TyI Tryz.prog 242 false 1:=⟨by kernel_rfl⟩
instance ty_244:TyI Tryz.prog 244 true 11:=⟨by kernel_rfl⟩
instance a3d:FldI Tryz.prog 25 0 0 2 false 1:=⟨by kernel_rfl⟩
instance a5p:FldI Tryz.prog 25 1 1 2 false 1:=⟨by kernel_rfl⟩
instance a9o:FldI Tryz.prog 25 2 2 4 false 1:=⟨by kernel_rfl⟩
instance fld_25_3:FldI Tryz.prog 25 3 3 4 false 1:=⟨by kernel_rfl⟩
instance fld_25_4:FldI Tryz.prog 25 4 4 4 false 1:=⟨by kernel_rfl⟩
instance b9g:FldI Tryz.prog 25 5 5 4 false 1:=⟨by kernel_rfl⟩
instance a9a:FldI Tryz.prog 25 6 6 4 false 1:=⟨by kernel_rfl⟩
instance a7c:FldI Tryz.prog 25 7 7 2 false 1:=⟨by kernel_rfl⟩
instance a5t:FldI Tryz.prog 25 8 8 2 false 1:=⟨by kernel_rfl⟩
instance a1a:FldI Tryz.prog 28 0 0 26 false 1:=⟨by kernel_rfl⟩
instance a0z:FldI Tryz.prog 28 1 1 26 false 1:=⟨by kernel_rfl⟩
instance a0v:FldI Tryz.prog 28 2 2 2 false 1:=⟨by kernel_rfl⟩
instance a1u:FldI Tryz.prog 53 0 0 25 true 9:=⟨by kernel_rfl⟩
instance a2l:FldI Tryz.prog 53 1 9 28 true 3:=⟨by kernel_rfl⟩
instance a0x:FldI Tryz.prog 53 2 12 26 false 1:=⟨by kernel_rfl⟩
instance a1r:FldI Tryz.prog 53 3 13 28 true 3:=⟨by kernel_rfl⟩
instance a4r:FldI Tryz.prog 53 4 16 2 false 1:=⟨by kernel_rfl⟩
instance a1c:FldI Tryz.prog 75 0 0 26 false 1:=⟨by kernel_rfl⟩
instance a2m:FldI Tryz.prog 75 1 1 26 false 1:=⟨by kernel_rfl⟩
instance a3t:FldI Tryz.prog 75 2 2 2 false 1:=⟨by kernel_rfl⟩
instance fld_75_3:FldI Tryz.prog 75 3 3 2 false 1:=⟨by kernel_rfl⟩
instance b7r:FldI Tryz.prog 77 0 0 25 true 9:=⟨by kernel_rfl⟩
instance a8v:FldI Tryz.prog 77 1 9 2 false 1:=⟨by kernel_rfl⟩
instance a9n:FldI Tryz.prog 77 2 10 75 true 4:=⟨by kernel_rfl⟩
instance fld_77_3:FldI Tryz.prog 77 3 14 26 false 1:=⟨by kernel_rfl⟩
instance fld_109_0:FldI Tryz.prog 109 0 0 2 false 1:=⟨by kernel_rfl⟩
instance fld_109_1:FldI Tryz.prog 109 1 1 2 false 1:=⟨by kernel_rfl⟩
instance fld_109_2:FldI Tryz.prog 109 2 2 4 false 1:=⟨by kernel_rfl⟩
instance b4d:FldI Tryz.prog 109 3 3 28 true 3:=⟨by kernel_rfl⟩
instance a7n:FldI Tryz.prog 141 0 0 22 false 1:=⟨by kernel_rfl⟩
instance a6z:FldI Tryz.prog 141 1 1 3 false 1:=⟨by kernel_rfl⟩
instance fld_141_2:FldI Tryz.prog 141 2 2 139 false 1:=⟨by kernel_rfl⟩
instance a4e:FldI Tryz.prog 157 0 0 53 true 17:=⟨by kernel_rfl⟩
instance a3l:FldI Tryz.prog 244 0 0 25 true 9:=⟨by kernel_rfl⟩
instance b4m:FldI Tryz.prog 244 1 9 215 false 1:=⟨by kernel_rfl⟩
instance fld_244_2:FldI Tryz.prog 244 2 10 242 false 1:=⟨by kernel_rfl⟩
instance eI_22:ElI Tryz.prog 22 5 1 1 [.int .u8 0]:=⟨by kernel_rfl⟩
theorem el_22:elOf Tryz.prog 22=some (5,1,1,[.int .u8 0]):=ElI.h
instance eI_26:ElI Tryz.prog 26 2 1 8 [.int .i64 0]:=⟨by kernel_rfl⟩
theorem el_26:elOf Tryz.prog 26=some (2,1,8,[.int .i64 0]):=ElI.h
instance eI_31:ElI Tryz.prog 31 9 1 16 [.string ByteArray.empty]:=⟨by kernel_rfl⟩
theorem el_31:elOf Tryz.prog 31=some (9,1,16,[.string ByteArray.empty]):=ElI.h
instance eI_102:ElI Tryz.prog 102 28 3 56 [.slice none 0 0,.slice none 0 0,.int .i64 0]:=⟨by kernel_rfl⟩
theorem a3p:elOf Tryz.prog 102=some (28,3,56,[.slice none 0 0,.slice none 0 0,.int .i64 0]):=ElI.h
instance eI_103:ElI Tryz.prog 103 109 6 80 [.int .i64 0,.int .i64 0,.bool false,.slice none 0 0,.slice none 0 0,.int .i64 0]:=⟨by kernel_rfl⟩
theorem a3a:elOf Tryz.prog 103=some (109,6,80,[.int .i64 0,.int .i64 0,.bool false,.slice none 0 0,.slice none 0 0,.int .i64 0]):=ElI.h
instance eI_215:ElI Tryz.prog 215 239 3 32 [.int .i64 0,.int .i64 0,.string ByteArray.empty]:=⟨by kernel_rfl⟩
theorem a2z:elOf Tryz.prog 215=some (239,3,32,[.int .i64 0,.int .i64 0,.string ByteArray.empty]):=ElI.h
instance eI_237:ElI Tryz.prog 237 4 1 1 [.bool false]:=⟨by kernel_rfl⟩
theorem b5y:elOf Tryz.prog 237=some (4,1,1,[.bool false]):=ElI.h
instance zero_25:ZeroI Tryz.prog 25 [.int .i64 0,.int .i64 0,.bool false,.bool false,.bool false,.bool false,.bool false,.int .i64 0,.int .i64 0]:=⟨by kernel_rfl⟩
instance zero_28:ZeroI Tryz.prog 28 [.slice none 0 0,.slice none 0 0,.int .i64 0]:=⟨by kernel_rfl⟩
instance zero_53:ZeroI Tryz.prog 53 [.int .i64 0,.int .i64 0,.bool false,.bool false,.bool false,.bool false,.bool false,.int .i64 0,.int .i64 0,.slice none 0 0,.slice none 0 0,.int .i64 0,.slice none 0 0,.slice none 0 0,.slice none 0 0,.int .i64 0,.int .i64 0]:=⟨by kernel_rfl⟩
instance zero_75:ZeroI Tryz.prog 75 [.slice none 0 0,.slice none 0 0,.int .i64 0,.int .i64 0]:=⟨by kernel_rfl⟩
instance zero_77:ZeroI Tryz.prog 77 [.int .i64 0,.int .i64 0,.bool false,.bool false,.bool false,.bool false,.bool false,.int .i64 0,.int .i64 0,.int .i64 0,.slice none 0 0,.slice none 0 0,.int .i64 0,.int .i64 0,.slice none 0 0]:=⟨by kernel_rfl⟩
instance zero_109:ZeroI Tryz.prog 109 [.int .i64 0,.int .i64 0,.bool false,.slice none 0 0,.slice none 0 0,.int .i64 0]:=⟨by kernel_rfl⟩
instance zero_114:ZeroI Tryz.prog 114 [.string ByteArray.empty,.string ByteArray.empty,.string ByteArray.empty,.string ByteArray.empty,.string ByteArray.empty,.string ByteArray.empty,.string ByteArray.empty]:=⟨by kernel_rfl⟩
instance zero_141:ZeroI Tryz.prog 141 [.slice none 0 0,.int .i64 0,.int .u64 0]:=⟨by kernel_rfl⟩
instance zero_157:ZeroI Tryz.prog 157 [.int .i64 0,.int .i64 0,.bool false,.bool false,.bool false,.bool false,.bool false,.int .i64 0,.int .i64 0,.slice none 0 0,.slice none 0 0,.int .i64 0,.slice none 0 0,.slice none 0 0,.slice none 0 0,.int .i64 0,.int .i64 0]:=⟨by kernel_rfl⟩
instance zero_195:ZeroI Tryz.prog 195 [.int .i64 0,.int .i64 0,.int .i64 0]:=⟨by kernel_rfl⟩
instance zero_239:ZeroI Tryz.prog 239 [.int .i64 0,.int .i64 0,.string ByteArray.empty]:=⟨by kernel_rfl⟩
instance zero_244:ZeroI Tryz.prog 244 [.int .i64 0,.int .i64 0,.bool false,.bool false,.bool false,.bool false,.bool false,.int .i64 0,.int .i64 0,.slice none 0 0,.map none]:=⟨by kernel_rfl⟩
instance flds_25:FldsI Tryz.prog 25 [(0,1),(1,1),(2,1),(3,1),(4,1),(5,1),(6,1),(7,1),(8,1)]:=⟨by kernel_rfl⟩
instance flds_28:FldsI Tryz.prog 28 [(0,1),(1,1),(2,1)]:=⟨by kernel_rfl⟩
instance flds_53:FldsI Tryz.prog 53 [(0,9),(9,3),(12,1),(13,3),(16,1)]:=⟨by kernel_rfl⟩
instance flds_75:FldsI Tryz.prog 75 [(0,1),(1,1),(2,1),(3,1)]:=⟨by kernel_rfl⟩
instance flds_77:FldsI Tryz.prog 77 [(0,9),(9,1),(10,4),(14,1)]:=⟨by kernel_rfl⟩
instance flds_109:FldsI Tryz.prog 109 [(0,1),(1,1),(2,1),(3,3)]:=⟨by kernel_rfl⟩
instance flds_141:FldsI Tryz.prog 141 [(0,1),(1,1),(2,1)]:=⟨by kernel_rfl⟩
instance flds_157:FldsI Tryz.prog 157 [(0,17)]:=⟨by kernel_rfl⟩
instance flds_239:FldsI Tryz.prog 239 [(0,1),(1,1),(2,1)]:=⟨by kernel_rfl⟩
instance flds_244:FldsI Tryz.prog 244 [(0,9),(9,1),(10,1)]:=⟨by kernel_rfl⟩
instance arr_114:ArrI Tryz.prog 114 7 1:=⟨by kernel_rfl⟩
instance arr_195:ArrI Tryz.prog 195 3 1:=⟨by kernel_rfl⟩
instance fn_7:FnI Tryz.prog 7:=⟨by kernel_rfl⟩
instance fn_23:FnI Tryz.prog 23:=⟨by kernel_rfl⟩
instance fn_24:FnI Tryz.prog 24:=⟨by kernel_rfl⟩
instance fn_25:FnI Tryz.prog 25:=⟨by kernel_rfl⟩
instance fn_26:FnI Tryz.prog 26:=⟨by kernel_rfl⟩
instance fn_27:FnI Tryz.prog 27:=⟨by kernel_rfl⟩
instance fn_31:FnI Tryz.prog 31:=⟨by kernel_rfl⟩
instance fn_32:FnI Tryz.prog 32:=⟨by kernel_rfl⟩
instance fn_33:FnI Tryz.prog 33:=⟨by kernel_rfl⟩
instance fn_34:FnI Tryz.prog 34:=⟨by kernel_rfl⟩
instance fn_35:FnI Tryz.prog 35:=⟨by kernel_rfl⟩
instance fn_36:FnI Tryz.prog 36:=⟨by kernel_rfl⟩
instance fn_37:FnI Tryz.prog 37:=⟨by kernel_rfl⟩
instance fn_39:FnI Tryz.prog 39:=⟨by kernel_rfl⟩
instance fn_45:FnI Tryz.prog 45:=⟨by kernel_rfl⟩
instance fn_46:FnI Tryz.prog 46:=⟨by kernel_rfl⟩
instance fn_48:FnI Tryz.prog 48:=⟨by kernel_rfl⟩
instance fn_50:FnI Tryz.prog 50:=⟨by kernel_rfl⟩
instance fn_51:FnI Tryz.prog 51:=⟨by kernel_rfl⟩
instance fn_52:FnI Tryz.prog 52:=⟨by kernel_rfl⟩
instance fn_54:FnI Tryz.prog 54:=⟨by kernel_rfl⟩
instance fn_55:FnI Tryz.prog 55:=⟨by kernel_rfl⟩
instance fn_56:FnI Tryz.prog 56:=⟨by kernel_rfl⟩
instance fn_57:FnI Tryz.prog 57:=⟨by kernel_rfl⟩
instance fn_58:FnI Tryz.prog 58:=⟨by kernel_rfl⟩
instance fn_59:FnI Tryz.prog 59:=⟨by kernel_rfl⟩
instance fn_60:FnI Tryz.prog 60:=⟨by kernel_rfl⟩
instance fn_61:FnI Tryz.prog 61:=⟨by kernel_rfl⟩
instance fn_69:FnI Tryz.prog 69:=⟨by kernel_rfl⟩
instance fn_70:FnI Tryz.prog 70:=⟨by kernel_rfl⟩
instance fn_71:FnI Tryz.prog 71:=⟨by kernel_rfl⟩
instance fn_72:FnI Tryz.prog 72:=⟨by kernel_rfl⟩
instance fn_73:FnI Tryz.prog 73:=⟨by kernel_rfl⟩
instance fn_74:FnI Tryz.prog 74:=⟨by kernel_rfl⟩
instance fn_75:FnI Tryz.prog 75:=⟨by kernel_rfl⟩
instance fn_76:FnI Tryz.prog 76:=⟨by kernel_rfl⟩
instance fn_77:FnI Tryz.prog 77:=⟨by kernel_rfl⟩
instance fn_78:FnI Tryz.prog 78:=⟨by kernel_rfl⟩
instance fn_79:FnI Tryz.prog 79:=⟨by kernel_rfl⟩
instance fn_80:FnI Tryz.prog 80:=⟨by kernel_rfl⟩
instance fn_83:FnI Tryz.prog 83:=⟨by kernel_rfl⟩
instance fn_84:FnI Tryz.prog 84:=⟨by kernel_rfl⟩
instance fn_85:FnI Tryz.prog 85:=⟨by kernel_rfl⟩
instance fn_86:FnI Tryz.prog 86:=⟨by kernel_rfl⟩
instance fn_87:FnI Tryz.prog 87:=⟨by kernel_rfl⟩
instance fn_88:FnI Tryz.prog 88:=⟨by kernel_rfl⟩
instance fn_89:FnI Tryz.prog 89:=⟨by kernel_rfl⟩
instance fn_91:FnI Tryz.prog 91:=⟨by kernel_rfl⟩
instance fn_92:FnI Tryz.prog 92:=⟨by kernel_rfl⟩
instance fn_93:FnI Tryz.prog 93:=⟨by kernel_rfl⟩
instance fn_94:FnI Tryz.prog 94:=⟨by kernel_rfl⟩
instance fn_95:FnI Tryz.prog 95:=⟨by kernel_rfl⟩
instance fn_97:FnI Tryz.prog 97:=⟨by kernel_rfl⟩
instance fn_98:FnI Tryz.prog 98:=⟨by kernel_rfl⟩
instance fn_99:FnI Tryz.prog 99:=⟨by kernel_rfl⟩
instance fn_100:FnI Tryz.prog 100:=⟨by kernel_rfl⟩
instance fn_102:FnI Tryz.prog 102:=⟨by kernel_rfl⟩
instance fn_103:FnI Tryz.prog 103:=⟨by kernel_rfl⟩
instance fn_104:FnI Tryz.prog 104:=⟨by kernel_rfl⟩
instance fn_105:FnI Tryz.prog 105:=⟨by kernel_rfl⟩
instance fn_106:FnI Tryz.prog 106:=⟨by kernel_rfl⟩
instance fn_107:FnI Tryz.prog 107:=⟨by kernel_rfl⟩
instance fn_108:FnI Tryz.prog 108:=⟨by kernel_rfl⟩
instance fn_109:FnI Tryz.prog 109:=⟨by kernel_rfl⟩
instance fn_110:FnI Tryz.prog 110:=⟨by kernel_rfl⟩
instance fn_111:FnI Tryz.prog 111:=⟨by kernel_rfl⟩
instance fn_112:FnI Tryz.prog 112:=⟨by kernel_rfl⟩
instance fn_113:FnI Tryz.prog 113:=⟨by kernel_rfl⟩
instance fn_114:FnI Tryz.prog 114:=⟨by kernel_rfl⟩
instance fn_115:FnI Tryz.prog 115:=⟨by kernel_rfl⟩
instance fn_116:FnI Tryz.prog 116:=⟨by kernel_rfl⟩
instance fn_117:FnI Tryz.prog 117:=⟨by kernel_rfl⟩
instance fn_118:FnI Tryz.prog 118:=⟨by kernel_rfl⟩
instance fn_119:FnI Tryz.prog 119:=⟨by kernel_rfl⟩
instance fn_120:FnI Tryz.prog 120:=⟨by kernel_rfl⟩
instance fn_121:FnI Tryz.prog 121:=⟨by kernel_rfl⟩
instance fn_122:FnI Tryz.prog 122:=⟨by kernel_rfl⟩
instance fn_123:FnI Tryz.prog 123:=⟨by kernel_rfl⟩
instance fn_124:FnI Tryz.prog 124:=⟨by kernel_rfl⟩
instance fn_125:FnI Tryz.prog 125:=⟨by kernel_rfl⟩
instance fn_126:FnI Tryz.prog 126:=⟨by kernel_rfl⟩
instance fn_127:FnI Tryz.prog 127:=⟨by kernel_rfl⟩
instance fn_128:FnI Tryz.prog 128:=⟨by kernel_rfl⟩
instance fn_129:FnI Tryz.prog 129:=⟨by kernel_rfl⟩
instance fn_130:FnI Tryz.prog 130:=⟨by kernel_rfl⟩
instance fn_131:FnI Tryz.prog 131:=⟨by kernel_rfl⟩
instance fn_132:FnI Tryz.prog 132:=⟨by kernel_rfl⟩
instance fn_133:FnI Tryz.prog 133:=⟨by kernel_rfl⟩
instance fn_134:FnI Tryz.prog 134:=⟨by kernel_rfl⟩
instance fn_135:FnI Tryz.prog 135:=⟨by kernel_rfl⟩
instance fn_136:FnI Tryz.prog 136:=⟨by kernel_rfl⟩
instance fn_137:FnI Tryz.prog 137:=⟨by kernel_rfl⟩
instance fn_138:FnI Tryz.prog 138:=⟨by kernel_rfl⟩
instance fn_140:FnI Tryz.prog 140:=⟨by kernel_rfl⟩
instance fn_141:FnI Tryz.prog 141:=⟨by kernel_rfl⟩
instance fn_142:FnI Tryz.prog 142:=⟨by kernel_rfl⟩
instance fn_143:FnI Tryz.prog 143:=⟨by kernel_rfl⟩
instance fn_144:FnI Tryz.prog 144:=⟨by kernel_rfl⟩
instance fn_145:FnI Tryz.prog 145:=⟨by kernel_rfl⟩
instance fn_146:FnI Tryz.prog 146:=⟨by kernel_rfl⟩
instance fn_147:FnI Tryz.prog 147:=⟨by kernel_rfl⟩
instance fn_148:FnI Tryz.prog 148:=⟨by kernel_rfl⟩
instance fn_149:FnI Tryz.prog 149:=⟨by kernel_rfl⟩
instance fn_151:FnI Tryz.prog 151:=⟨by kernel_rfl⟩
instance fn_152:FnI Tryz.prog 152:=⟨by kernel_rfl⟩
instance fn_154:FnI Tryz.prog 154:=⟨by kernel_rfl⟩
instance fn_155:FnI Tryz.prog 155:=⟨by kernel_rfl⟩
instance fn_156:FnI Tryz.prog 156:=⟨by kernel_rfl⟩
instance fn_157:FnI Tryz.prog 157:=⟨by kernel_rfl⟩
instance fn_158:FnI Tryz.prog 158:=⟨by kernel_rfl⟩
instance fn_159:FnI Tryz.prog 159:=⟨by kernel_rfl⟩
instance fn_160:FnI Tryz.prog 160:=⟨by kernel_rfl⟩
instance fn_161:FnI Tryz.prog 161:=⟨by kernel_rfl⟩
instance fn_162:FnI Tryz.prog 162:=⟨by kernel_rfl⟩
instance fn_163:FnI Tryz.prog 163:=⟨by kernel_rfl⟩
instance fn_164:FnI Tryz.prog 164:=⟨by kernel_rfl⟩
instance fn_165:FnI Tryz.prog 165:=⟨by kernel_rfl⟩
instance fn_166:FnI Tryz.prog 166:=⟨by kernel_rfl⟩
instance fn_167:FnI Tryz.prog 167:=⟨by kernel_rfl⟩
instance fn_168:FnI Tryz.prog 168:=⟨by kernel_rfl⟩
instance fn_169:FnI Tryz.prog 169:=⟨by kernel_rfl⟩
instance fn_170:FnI Tryz.prog 170:=⟨by kernel_rfl⟩
instance fn_171:FnI Tryz.prog 171:=⟨by kernel_rfl⟩
instance fn_172:FnI Tryz.prog 172:=⟨by kernel_rfl⟩
instance fn_173:FnI Tryz.prog 173:=⟨by kernel_rfl⟩
instance fn_174:FnI Tryz.prog 174:=⟨by kernel_rfl⟩
instance fn_175:FnI Tryz.prog 175:=⟨by kernel_rfl⟩
instance fn_176:FnI Tryz.prog 176:=⟨by kernel_rfl⟩
instance fn_180:FnI Tryz.prog 180:=⟨by kernel_rfl⟩
instance fn_185:FnI Tryz.prog 185:=⟨by kernel_rfl⟩
instance fn_186:FnI Tryz.prog 186:=⟨by kernel_rfl⟩
instance fn_187:FnI Tryz.prog 187:=⟨by kernel_rfl⟩
instance fn_188:FnI Tryz.prog 188:=⟨by kernel_rfl⟩
instance fn_189:FnI Tryz.prog 189:=⟨by kernel_rfl⟩
instance fn_190:FnI Tryz.prog 190:=⟨by kernel_rfl⟩
instance fn_191:FnI Tryz.prog 191:=⟨by kernel_rfl⟩
instance fn_192:FnI Tryz.prog 192:=⟨by kernel_rfl⟩
instance fn_194:FnI Tryz.prog 194:=⟨by kernel_rfl⟩
instance fn_200:FnI Tryz.prog 200:=⟨by kernel_rfl⟩
instance fn_201:FnI Tryz.prog 201:=⟨by kernel_rfl⟩
instance fn_202:FnI Tryz.prog 202:=⟨by kernel_rfl⟩
instance fn_203:FnI Tryz.prog 203:=⟨by kernel_rfl⟩
instance fn_204:FnI Tryz.prog 204:=⟨by kernel_rfl⟩
instance fn_205:FnI Tryz.prog 205:=⟨by kernel_rfl⟩
instance fn_206:FnI Tryz.prog 206:=⟨by kernel_rfl⟩
instance fn_209:FnI Tryz.prog 209:=⟨by kernel_rfl⟩
instance fn_210:FnI Tryz.prog 210:=⟨by kernel_rfl⟩
instance fn_211:FnI Tryz.prog 211:=⟨by kernel_rfl⟩
instance fn_212:FnI Tryz.prog 212:=⟨by kernel_rfl⟩
instance fn_213:FnI Tryz.prog 213:=⟨by kernel_rfl⟩
instance fn_214:FnI Tryz.prog 214:=⟨by kernel_rfl⟩
instance uI_4:UndI Tryz.prog 4 (.bool):=⟨@Tryz.underlying4⟩
theorem und_4:Tryz.prog.underlying 4=some (.bool):=UndI.h
instance uI_9:UndI Tryz.prog 9 (.string):=⟨@Tryz.underlying9⟩
theorem und_9:Tryz.prog.underlying 9=some (.string):=UndI.h
instance uI_10:UndI Tryz.prog 10 (.string):=⟨@Tryz.underlying10⟩
instance uI_11:UndI Tryz.prog 11 (.string):=⟨@Tryz.underlying11⟩
instance uI_22:UndI Tryz.prog 22 (.slice 5):=⟨@Tryz.underlying22⟩
theorem a4z:Tryz.prog.underlying 22=some (.slice 5):=UndI.h
instance uI_26:UndI Tryz.prog 26 (.slice 2):=⟨@Tryz.underlying26⟩
theorem a1h:Tryz.prog.underlying 26=some (.slice 2):=UndI.h
instance uI_31:UndI Tryz.prog 31 (.slice 9):=⟨@Tryz.underlying31⟩
theorem a9z:Tryz.prog.underlying 31=some (.slice 9):=UndI.h
instance uI_43:UndI Tryz.prog 43 (.slice 37):=⟨@Tryz.underlying43⟩
instance uI_102:UndI Tryz.prog 102 (.slice 28):=⟨@Tryz.underlying102⟩
theorem a3n:Tryz.prog.underlying 102=some (.slice 28):=UndI.h
instance uI_103:UndI Tryz.prog 103 (.slice 109):=⟨@Tryz.underlying103⟩
theorem a2p:Tryz.prog.underlying 103=some (.slice 109):=UndI.h
instance uI_215:UndI Tryz.prog 215 (.slice 239):=⟨@Tryz.underlying215⟩
theorem a2b:Tryz.prog.underlying 215=some (.slice 239):=UndI.h
instance uI_237:UndI Tryz.prog 237 (.slice 4):=⟨@Tryz.underlying237⟩
theorem a5k:MapF Tryz.prog 242 9 2 (.string):=⟨@Tryz.underlying242,@Tryz.underlying9,by kernel_rfl⟩
instance mixI:MixI Tryz.prog:=⟨by kernel_rfl⟩
@[reducible] def cRules(x:M.Rul):List Ty:=[Ty.int x.pits,Ty.int x.seeds,Ty.bool x.stores,Ty.bool x.skip,Ty.bool x.relay,Ty.bool x.feed,Ty.bool x.again,Ty.int x.capture,Ty.int x.slam]
def lRules(xs:List M.Rul):List Ty:=xs.flatMap cRules
theorem b2i(xs:List M.Rul):(lRules xs).length=xs.length * 9:=a1q cRules 9 (λ_=>rfl) xs
instance:LenL lRules 9:=⟨b2i⟩
set_option maxRecDepth 100000 in
theorem eqs_Rules(a b:M.Rul)(w:World):(Op.equalIn 10000 25 (.agg #[.int .i64 a.pits,.int .i64 a.seeds,.bool a.stores,.bool a.skip,.bool a.relay,.bool a.feed,.bool a.again,.int .i64 a.capture,.int .i64 a.slam]) (.agg #[.int .i64 b.pits,.int .i64 b.seeds,.bool b.stores,.bool b.skip,.bool b.relay,.bool b.feed,.bool b.again,.int .i64 b.capture,.int .i64 b.slam])).run Tryz.prog w=.ok (decide (a=b)) w:=by
  have u2:=Tryz.underlying2
  have u4:=Tryz.underlying4
  have i2:=run_equalIn_int (P:=Tryz.prog) (d:=9998) (t:=2) (k:=.i64) (k':=.i64) (h:=u2)
  have i4:=a2x (P:=Tryz.prog) 9998 (t:=4) u4
  rw[show(10000:Nat)=9999 + 1 from rfl,run_equalIn_agg w 9999 25 _ _ (by kernel_rfl) (by kernel_rfl)]
  simp only[Program.fieldsOf,Tryz.underlying25]
  go_simp
  by_cases h:a=b
  · subst h;simp
  rw[decide_eq_false h]
  by_cases h0:a.pits=b.pits
  case neg=>rw[if_neg h0]
  rw[if_pos h0]
  by_cases h1:a.seeds=b.seeds
  case neg=>rw[if_neg h1]
  rw[if_pos h1]
  by_cases h2:a.stores=b.stores
  case neg=>rw[if_neg h2]
  rw[if_pos h2]
  by_cases h3:a.skip=b.skip
  case neg=>rw[if_neg h3]
  rw[if_pos h3]
  by_cases h4:a.relay=b.relay
  case neg=>rw[if_neg h4]
  rw[if_pos h4]
  by_cases h5:a.feed=b.feed
  case neg=>rw[if_neg h5]
  rw[if_pos h5]
  by_cases h6:a.again=b.again
  case neg=>rw[if_neg h6]
  rw[if_pos h6]
  by_cases h7:a.capture=b.capture
  case neg=>rw[if_neg h7]
  rw[if_pos h7]
  by_cases h8:a.slam=b.slam
  case neg=>rw[if_neg h8]
  rw[if_pos h8]
  exact absurd (by cases a;cases b;simp_all) h
@[reducible] def cPosition(x:M.Pos):List Ty:=[Ty.ints 2 x.pits,Ty.ints 2 x.stores,Ty.int x.player]
def lPosition(xs:List M.Pos):List Ty:=xs.flatMap cPosition
theorem a8t(xs:List M.Pos):(lPosition xs).length=xs.length * 3:=a1q cPosition 3 (λ_=>rfl) xs
instance:LenL lPosition 3:=⟨a8t⟩
theorem a7i{u:World}{e c i:Nat}{A:Option Addr}{xs:List M.Pos}{x:M.Pos}(h:(Ty.sl e 3 xs.length (lPosition xs)).ok u (.slice A xs.length c))(hi:xs[i]?=some x):∃ b o A0 c0 A1 c1,elemA 3 (.slice A xs.length c) i=some ⟨b,o,none⟩/\RowAt u b o [.slice A0 x.pits.length c0,.slice A1 x.stores.length c1,.int .i64 x.player]/\(Ty.ints 2 x.pits).ok u (.slice A0 x.pits.length c0)/\(Ty.ints 2 x.stores).ok u (.slice A1 x.stores.length c1)/\x.pits.length<=c0/\c0<=9223372036854775807/\x.stores.length<=c1/\c1<=9223372036854775807:=by
  obtain⟨b,o,vs,he,h,hr⟩:=a7x h (List.getElem?_eq_some_iff.1 hi).1 rfl
  have e:=a5h cPosition 3 (λ_=>rfl) xs i x hi
  unfold lPosition at h
  rw[e] at h
  obtain⟨x0,r,rfl,h0,h⟩:=a0f h
  obtain⟨x1,r,rfl,h1,h⟩:=a0f h
  obtain⟨x2,r,rfl,h2,h⟩:=a0f h
  obtain rfl:=a1t h
  obtain⟨A0,c0,rfl,b0,d0⟩:=a1i h0
  obtain⟨A1,c1,rfl,b1,d1⟩:=a1i h1
  obtain rfl:x2=.int .i64 x.player:=h2
  exact⟨b,o,A0,c0,A1,c1,he,hr,h0,h1,b0,d0,b1,d1⟩
theorem a2q(xs:List M.Pos)(x:M.Pos):lPosition xs++cPosition x=lPosition (xs++[x]):=by simp[lPosition]
@[reducible] def cSown(x:M.Sw):List Ty:=[Ty.ints 2 x.pits,Ty.ints 2 x.stores,Ty.int x.last,Ty.int x.laps]
def lSown(xs:List M.Sw):List Ty:=xs.flatMap cSown
theorem b5c(xs:List M.Sw):(lSown xs).length=xs.length * 4:=a1q cSown 4 (λ_=>rfl) xs
instance:LenL lSown 4:=⟨b5c⟩
@[reducible] def csowing(x:M.Sow):List Ty:=[Ty.int x.rules.pits,Ty.int x.rules.seeds,Ty.bool x.rules.stores,Ty.bool x.rules.skip,Ty.bool x.rules.relay,Ty.bool x.rules.feed,Ty.bool x.rules.again,Ty.int x.rules.capture,Ty.int x.rules.slam,Ty.int x.player,Ty.ints 2 x.sown.pits,Ty.ints 2 x.sown.stores,Ty.int x.sown.last,Ty.int x.sown.laps,Ty.ints 2 x.path]
theorem c0e{u:World}{v:Value}{x:M.Sow}(h:(Ty.ref (csowing x)).ok u v):∃ b o A10 c10 A11 c11 A14 c14,v=.pointer (some ⟨b,o,none⟩)/\RowAt u b o [.int .i64 x.rules.pits,.int .i64 x.rules.seeds,.bool x.rules.stores,.bool x.rules.skip,.bool x.rules.relay,.bool x.rules.feed,.bool x.rules.again,.int .i64 x.rules.capture,.int .i64 x.rules.slam,.int .i64 x.player,.slice A10 x.sown.pits.length c10,.slice A11 x.sown.stores.length c11,.int .i64 x.sown.last,.int .i64 x.sown.laps,.slice A14 x.path.length c14]/\(Ty.ints 2 x.sown.pits).ok u (.slice A10 x.sown.pits.length c10)/\(Ty.ints 2 x.sown.stores).ok u (.slice A11 x.sown.stores.length c11)/\(Ty.ints 2 x.path).ok u (.slice A14 x.path.length c14)/\x.sown.pits.length<=c10/\c10<=9223372036854775807/\x.sown.stores.length<=c11/\c11<=9223372036854775807/\x.path.length<=c14/\c14<=9223372036854775807:=by
  obtain⟨b,o,vs,rfl,h,hr⟩:=h
  obtain⟨x0,r,rfl,h0,h⟩:=a0f h
  obtain⟨x1,r,rfl,h1,h⟩:=a0f h
  obtain⟨x2,r,rfl,h2,h⟩:=a0f h
  obtain⟨x3,r,rfl,h3,h⟩:=a0f h
  obtain⟨x4,r,rfl,h4,h⟩:=a0f h
  obtain⟨x5,r,rfl,h5,h⟩:=a0f h
  obtain⟨x6,r,rfl,h6,h⟩:=a0f h
  obtain⟨x7,r,rfl,h7,h⟩:=a0f h
  obtain⟨x8,r,rfl,h8,h⟩:=a0f h
  obtain⟨x9,r,rfl,h9,h⟩:=a0f h
  obtain⟨x10,r,rfl,h10,h⟩:=a0f h
  obtain⟨x11,r,rfl,h11,h⟩:=a0f h
  obtain⟨x12,r,rfl,h12,h⟩:=a0f h
  obtain⟨x13,r,rfl,h13,h⟩:=a0f h
  obtain⟨x14,r,rfl,h14,h⟩:=a0f h
  obtain rfl:=a1t h
  obtain rfl:x0=.int .i64 x.rules.pits:=h0
  obtain rfl:x1=.int .i64 x.rules.seeds:=h1
  obtain rfl:x2=.bool x.rules.stores:=h2
  obtain rfl:x3=.bool x.rules.skip:=h3
  obtain rfl:x4=.bool x.rules.relay:=h4
  obtain rfl:x5=.bool x.rules.feed:=h5
  obtain rfl:x6=.bool x.rules.again:=h6
  obtain rfl:x7=.int .i64 x.rules.capture:=h7
  obtain rfl:x8=.int .i64 x.rules.slam:=h8
  obtain rfl:x9=.int .i64 x.player:=h9
  obtain⟨A10,c10,rfl,b10,d10⟩:=a1i h10
  obtain⟨A11,c11,rfl,b11,d11⟩:=a1i h11
  obtain rfl:x12=.int .i64 x.sown.last:=h12
  obtain rfl:x13=.int .i64 x.sown.laps:=h13
  obtain⟨A14,c14,rfl,b14,d14⟩:=a1i h14
  exact⟨b,o,A10,c10,A11,c11,A14,c14,rfl,hr,h10,h11,h14,b10,d10,b11,d11,b14,d14⟩
def lsowing(xs:List M.Sow):List Ty:=xs.flatMap csowing
theorem b0u(xs:List M.Sow):(lsowing xs).length=xs.length * 15:=a1q csowing 15 (λ_=>rfl) xs
instance:LenL lsowing 15:=⟨b0u⟩
@[reducible] def cResult(x:M.Res):List Ty:=[Ty.int x.move,Ty.int x.gain,Ty.bool x.again,Ty.ints 2 x.next.pits,Ty.ints 2 x.next.stores,Ty.int x.next.player]
def lResult(xs:List M.Res):List Ty:=xs.flatMap cResult
theorem b0z(xs:List M.Res):(lResult xs).length=xs.length * 6:=a1q cResult 6 (λ_=>rfl) xs
instance:LenL lResult 6:=⟨b0z⟩
theorem b6h{u:World}{e c i:Nat}{A:Option Addr}{xs:List M.Res}{x:M.Res}(h:(Ty.sl e 6 xs.length (lResult xs)).ok u (.slice A xs.length c))(hi:xs[i]?=some x):∃ b o A3 c3 A4 c4,elemA 6 (.slice A xs.length c) i=some ⟨b,o,none⟩/\RowAt u b o [.int .i64 x.move,.int .i64 x.gain,.bool x.again,.slice A3 x.next.pits.length c3,.slice A4 x.next.stores.length c4,.int .i64 x.next.player]/\(Ty.ints 2 x.next.pits).ok u (.slice A3 x.next.pits.length c3)/\(Ty.ints 2 x.next.stores).ok u (.slice A4 x.next.stores.length c4)/\x.next.pits.length<=c3/\c3<=9223372036854775807/\x.next.stores.length<=c4/\c4<=9223372036854775807:=by
  obtain⟨b,o,vs,he,h,hr⟩:=a7x h (List.getElem?_eq_some_iff.1 hi).1 rfl
  have e:=a5h cResult 6 (λ_=>rfl) xs i x hi
  unfold lResult at h
  rw[e] at h
  obtain⟨x0,r,rfl,h0,h⟩:=a0f h
  obtain⟨x1,r,rfl,h1,h⟩:=a0f h
  obtain⟨x2,r,rfl,h2,h⟩:=a0f h
  obtain⟨x3,r,rfl,h3,h⟩:=a0f h
  obtain⟨x4,r,rfl,h4,h⟩:=a0f h
  obtain⟨x5,r,rfl,h5,h⟩:=a0f h
  obtain rfl:=a1t h
  obtain rfl:x0=.int .i64 x.move:=h0
  obtain rfl:x1=.int .i64 x.gain:=h1
  obtain rfl:x2=.bool x.again:=h2
  obtain⟨A3,c3,rfl,b3,d3⟩:=a1i h3
  obtain⟨A4,c4,rfl,b4,d4⟩:=a1i h4
  obtain rfl:x5=.int .i64 x.next.player:=h5
  exact⟨b,o,A3,c3,A4,c4,he,hr,h3,h4,b3,d3,b4,d4⟩
theorem b4g{w:World}{i:Nat}{xs:List M.Res}{x:M.Res}{vs:List Value}(h:cellsOk w (lResult xs) vs)(hi:xs[i]?=some x):∃ A3 c3 A4 c4,(vs.drop (0 + i * 6)).take 6=[.int .i64 x.move,.int .i64 x.gain,.bool x.again,.slice A3 x.next.pits.length c3,.slice A4 x.next.stores.length c4,.int .i64 x.next.player]/\x.next.pits.length<=c3/\c3<=9223372036854775807/\x.next.stores.length<=c4/\c4<=9223372036854775807:=by
  rw[Nat.zero_add]
  have h:=cellsOk.take 6 (cellsOk.drop (i * 6) h)
  rw[lResult,a5h cResult 6 (λ_=>rfl) xs i x hi] at h
  generalize (vs.drop (i * 6)).take 6=vs at h ⊢
  obtain⟨x0,r,rfl,h0,h⟩:=a0f h
  obtain⟨x1,r,rfl,h1,h⟩:=a0f h
  obtain⟨x2,r,rfl,h2,h⟩:=a0f h
  obtain⟨x3,r,rfl,h3,h⟩:=a0f h
  obtain⟨x4,r,rfl,h4,h⟩:=a0f h
  obtain⟨x5,r,rfl,h5,h⟩:=a0f h
  obtain rfl:=a1t h
  obtain rfl:x0=.int .i64 x.move:=h0
  obtain rfl:x1=.int .i64 x.gain:=h1
  obtain rfl:x2=.bool x.again:=h2
  obtain⟨A3,c3,rfl,b3,d3⟩:=a1i h3
  obtain⟨A4,c4,rfl,b4,d4⟩:=a1i h4
  obtain rfl:x5=.int .i64 x.next.player:=h5
  exact⟨A3,c3,A4,c4,rfl,b3,d3,b4,d4⟩
theorem a4w(xs:List M.Res)(x:M.Res):lResult xs++cResult x=lResult (xs++[x]):=by simp[lResult]
theorem a6f{w:World}{x:M.Res}{v1 v2:Value}{f1 f2:List Nat}(h1:(Ty.ints 2 x.next.pits).own w v1 f1)(h2:(Ty.ints 2 x.next.stores).own w v2 f2):cellsOwn w (cResult x) [.int .i64 x.move,.int .i64 x.gain,.bool x.again,v1,v2,.int .i64 x.next.player] (f1++f2) :=
  ⟨[],f1++f2,rfl,⟨rfl,rfl⟩,⟨[],f1++f2,rfl,⟨rfl,rfl⟩,⟨[],f1++f2,rfl,⟨rfl,rfl⟩,⟨f1,f2,rfl,h1,⟨f2,[],(List.append_nil _).symm,h2,⟨[],[],rfl,⟨rfl,rfl⟩,rfl⟩⟩⟩⟩⟩⟩
@[reducible] def cResultL(x:M.Res):List Ty:=[Ty.int x.move,Ty.int x.gain,Ty.bool x.again,Ty.any,Ty.any,Ty.any]
def lResultL(xs:List M.Res):List Ty:=xs.flatMap cResultL
theorem b0c(xs:List M.Res):(lResultL xs).length=xs.length * 6:=a1q cResultL 6 (λ_=>rfl) xs
instance:LenL lResultL 6:=⟨b0c⟩
theorem b4c{u:World}{e c i:Nat}{A:Option Addr}{xs:List M.Res}{x:M.Res}(h:(Ty.sl e 6 xs.length (lResultL xs)).ok u (.slice A xs.length c))(hi:xs[i]?=some x):∃ b o V3 V4 V5,elemA 6 (.slice A xs.length c) i=some ⟨b,o,none⟩/\RowAt u b o [.int .i64 x.move,.int .i64 x.gain,.bool x.again,V3,V4,V5]/\V3.oneCell'=true/\V4.oneCell'=true/\V5.oneCell'=true:=by
  obtain⟨b,o,vs,he,h,hr⟩:=a7x h (List.getElem?_eq_some_iff.1 hi).1 rfl
  have e:=a5h cResultL 6 (λ_=>rfl) xs i x hi
  unfold lResultL at h
  rw[e] at h
  obtain⟨x0,r,rfl,h0,h⟩:=a0f h
  obtain⟨x1,r,rfl,h1,h⟩:=a0f h
  obtain⟨x2,r,rfl,h2,h⟩:=a0f h
  obtain⟨x3,r,rfl,h3,h⟩:=a0f h
  obtain⟨x4,r,rfl,h4,h⟩:=a0f h
  obtain⟨x5,r,rfl,h5,h⟩:=a0f h
  obtain rfl:=a1t h
  obtain rfl:x0=.int .i64 x.move:=h0
  obtain rfl:x1=.int .i64 x.gain:=h1
  obtain rfl:x2=.bool x.again:=h2
  exact⟨b,o,x3,x4,x5,he,hr,h3,h4,h5⟩
theorem b3v(xs:List M.Res)(x:M.Res):lResultL xs++cResultL x=lResultL (xs++[x]):=by simp[lResultL]
@[reducible] def cProblem(x:M.Prb):List Ty:=[Ty.int x.kind,Ty.int x.at1,Ty.str x.word]
def lProblem(xs:List M.Prb):List Ty:=xs.flatMap cProblem
theorem b0h(xs:List M.Prb):(lProblem xs).length=xs.length * 3:=a1q cProblem 3 (λ_=>rfl) xs
instance:LenL lProblem 3:=⟨b0h⟩
@[reducible] def vcProblem(x:M.Prb):List Value:=[.int .i64 x.kind,.int .i64 x.at1,.string (sB x.word)]
instance flt_Problem : FltL lProblem vcProblem 3 := flt_mk cProblem vcProblem 3 (fun w x => ⟨[], [], rfl, ⟨rfl, rfl⟩, ⟨[], [], rfl, ⟨rfl, rfl⟩, ⟨[], [], rfl, ⟨rfl, rfl⟩, rfl⟩⟩⟩) (fun w x vs f h => by
    obtain⟨x0,r0,g0,q0,rfl,rfl,⟨rfl,rfl⟩,h0⟩:=a1m h
    obtain⟨x1,r1,g1,q1,rfl,rfl,⟨rfl,rfl⟩,h1⟩:=a1m h0
    obtain⟨x2,r2,g2,q2,rfl,rfl,⟨rfl,rfl⟩,h2⟩:=a1m h1
    obtain⟨rfl,rfl⟩:=a5c h2
    exact⟨rfl,rfl⟩) (λw x vs h=>by
    obtain⟨x0,r,rfl,h0,h⟩:=a0f h
    obtain⟨x1,r,rfl,h1,h⟩:=a0f h
    obtain⟨x2,r,rfl,h2,h⟩:=a0f h
    obtain rfl:=a1t h
    obtain rfl:x0=.int .i64 x.kind:=h0
    obtain rfl:x1=.int .i64 x.at1:=h1
    obtain rfl:x2=.string (sB x.word):=h2
    rfl) (λ_=>rfl) (λ_=>rfl) (λ_=>rfl) (by decide)
@[reducible] def cFact(x:M.Fct):List Ty:=[Ty.int x.kind,Ty.int x.place,Ty.int x.count]
def lFact(xs:List M.Fct):List Ty:=xs.flatMap cFact
theorem b3x(xs:List M.Fct):(lFact xs).length=xs.length * 3:=a1q cFact 3 (λ_=>rfl) xs
instance:LenL lFact 3:=⟨b3x⟩
@[reducible] def vcFact(x:M.Fct):List Value:=[.int .i64 x.kind,.int .i64 x.place,.int .i64 x.count]
instance flt_Fact : FltL lFact vcFact 3 := flt_mk cFact vcFact 3 (fun w x => ⟨[], [], rfl, ⟨rfl, rfl⟩, ⟨[], [], rfl, ⟨rfl, rfl⟩, ⟨[], [], rfl, ⟨rfl, rfl⟩, rfl⟩⟩⟩) (fun w x vs f h => by
    obtain⟨x0,r0,g0,q0,rfl,rfl,⟨rfl,rfl⟩,h0⟩:=a1m h
    obtain⟨x1,r1,g1,q1,rfl,rfl,⟨rfl,rfl⟩,h1⟩:=a1m h0
    obtain⟨x2,r2,g2,q2,rfl,rfl,⟨rfl,rfl⟩,h2⟩:=a1m h1
    obtain⟨rfl,rfl⟩:=a5c h2
    exact⟨rfl,rfl⟩) (λw x vs h=>by
    obtain⟨x0,r,rfl,h0,h⟩:=a0f h
    obtain⟨x1,r,rfl,h1,h⟩:=a0f h
    obtain⟨x2,r,rfl,h2,h⟩:=a0f h
    obtain rfl:=a1t h
    obtain rfl:x0=.int .i64 x.kind:=h0
    obtain rfl:x1=.int .i64 x.place:=h1
    obtain rfl:x2=.int .i64 x.count:=h2
    rfl) (λ_=>rfl) (λ_=>rfl) (λ_=>rfl) (by decide)
@[reducible] def cbool(x:Bool):List Ty:=[Ty.bool x]
def lbool(xs:List Bool):List Ty:=xs.flatMap cbool
theorem b5u(xs:List Bool):(lbool xs).length=xs.length * 1:=a1q cbool 1 (λ_=>rfl) xs
instance:LenL lbool 1:=⟨b5u⟩
@[reducible] def vcbool(x:Bool):List Value:=[.bool x]
instance flt_bool : FltL lbool vcbool 1 := flt_mk cbool vcbool 1 (fun w x => ⟨[], [], rfl, ⟨rfl, rfl⟩, rfl⟩) (fun w x vs f h => by
    obtain⟨x0,r0,g0,q0,rfl,rfl,⟨rfl,rfl⟩,h0⟩:=a1m h
    obtain⟨rfl,rfl⟩:=a5c h0
    exact⟨rfl,rfl⟩) (λw x vs h=>by
    obtain⟨x0,r,rfl,h0,h⟩:=a0f h
    obtain rfl:=a1t h
    obtain rfl:x0=.bool x:=h0
    rfl) (λ_=>rfl) (λ_=>rfl) (λ_=>rfl) (by decide)
@[reducible] def ctri(x:M.Tri):List Ty:=[Ty.int x.a,Ty.int x.b,Ty.int x.c]
def ltri(xs:List M.Tri):List Ty:=xs.flatMap ctri
theorem b7j(xs:List M.Tri):(ltri xs).length=xs.length * 3:=a1q ctri 3 (λ_=>rfl) xs
instance:LenL ltri 3:=⟨b7j⟩
@[reducible] def cPositionL(x:M.Pos):List Ty:=[Ty.rx 2 x.pits,Ty.ints 2 x.stores,Ty.int x.player]
def lPositionL(xs:List M.Pos):List Ty:=xs.flatMap cPositionL
theorem a7v(xs:List M.Pos):(lPositionL xs).length=xs.length * 3:=a1q cPositionL 3 (λ_=>rfl) xs
instance:LenL lPositionL 3:=⟨a7v⟩
@[reducible] def cGameL(x:M.Gam):List Ty:=[Ty.int x.rules.pits,Ty.int x.rules.seeds,Ty.bool x.rules.stores,Ty.bool x.rules.skip,Ty.bool x.rules.relay,Ty.bool x.rules.feed,Ty.bool x.rules.again,Ty.int x.rules.capture,Ty.int x.rules.slam,Ty.ints 2 x.start.pits,Ty.ints 2 x.start.stores,Ty.int x.start.player,Ty.ro 2 x.moves,Ty.ints 2 x.now.pits,Ty.ints 2 x.now.stores,Ty.int x.now.player,Ty.int x.resigned]
def lGameL(xs:List M.Gam):List Ty:=xs.flatMap cGameL
theorem b2v(xs:List M.Gam):(lGameL xs).length=xs.length * 17:=a1q cGameL 17 (λ_=>rfl) xs
instance:LenL lGameL 17:=⟨b2v⟩
@[reducible] def cGame(x:M.Gam):List Ty:=[Ty.int x.rules.pits,Ty.int x.rules.seeds,Ty.bool x.rules.stores,Ty.bool x.rules.skip,Ty.bool x.rules.relay,Ty.bool x.rules.feed,Ty.bool x.rules.again,Ty.int x.rules.capture,Ty.int x.rules.slam,Ty.ints 2 x.start.pits,Ty.ints 2 x.start.stores,Ty.int x.start.player,Ty.ints 2 x.moves,Ty.ints 2 x.now.pits,Ty.ints 2 x.now.stores,Ty.int x.now.player,Ty.int x.resigned]
def lGame(xs:List M.Gam):List Ty:=xs.flatMap cGame
theorem b4x(xs:List M.Gam):(lGame xs).length=xs.length * 17:=a1q cGame 17 (λ_=>rfl) xs
instance:LenL lGame 17:=⟨b4x⟩
open Go.RowKit Go.ChangeShapes Go.WideShapes Go.ChangeAt
theorem cell_of{w:World}{b o:Nat}{x:Value}(h:w.cell? ⟨b,o,none⟩=some x):Cell w b o x:=by
  unfold World.cell? at h
  split at h
  · rename_i c t f hb
    exact⟨c,t,f,hb,by simpa using h⟩
  all_goals simp at h
section
variable {H : Type} {enc : TypeId × Value → H} {w : World} {spare : Nat → Bool} {held : Bool} {fuel : Nat} {x : DataW H × List MemPlace} {cs : List Value}
end
section
variable {H : Type} {enc : TypeId × Value → H} {w : World} {spare : Nat → Bool} {held : Bool} {fuel : Nat} {x : DataW H × List MemPlace} {cs : List Value}
theorem byte_wf{n:Int}(h:(Lit.int .u8 n).wf=true):0<=n/\n<=255:=by
  simp only[Lit.wf,Bool.and_eq_true,decide_eq_true_eq] at h
  first|exact h|(obtain⟨a,b⟩:=h;constructor <;> simp_all[IntKind.min,IntKind.max] <;> omega)
theorem b8t(w:World):∀ (l:List Int),(∀ n∈l,0<=n/\n<=255)->cellsOk w (List.replicate l.length Ty.byte) (l.map (λn=>.int .u8 n))
  | [],_=>trivial
  | n::l,h=>⟨⟨n,rfl,h n (by simp)⟩,b8t w l (λm hm=>h m (by simp[hm]))⟩
theorem rd_bytes{P:Program}{t e:TypeId}(ht:P.underlying t=some (.slice e))(he:P.underlying e=some (.int .u8))(hc:P.cellsOf e=1)(h:DataW.trod enc P w 0 spare held fuel t cs=some x):∃ n:Nat,cellsOk w [Ty.bytes e n] cs:=by
  rcases open_ints ht he hc h with⟨rfl,_⟩|⟨a,len,cap,zs,rfl,_,hl,hm,hz,_,hcell,hwf⟩
  · exact⟨0,nil_ok,trivial⟩
  · have hlz:len<=zs.length:=by rw[hz];split <;> omega
    have hlen:(zs.take len).length=len:=by simp;omega
    refine⟨len,⟨by simp,some a,cap,(zs.take len).map (λn=>.int .u8 n),rfl,hl,hm, ?_,λhp=>?_⟩,trivial⟩
    · have:=b8t w (zs.take len) (λn hn=>byte_wf (hwf n (List.mem_of_mem_take hn)))
      rwa [hlen] at this
    have hp:0 < len:=by simpa using hp
    obtain⟨b,off,spot⟩:=a
    have hspot:spot=none:=by simpa[Addr.add] using World.cell?_spot (hcell 0 (by omega))
    subst hspot
    refine⟨b,off,rfl,λj v hj=>?_⟩
    simp only[List.getElem?_map,Option.map_eq_some_iff] at hj
    obtain⟨n,hn,rfl⟩:=hj
    rw[List.getElem?_take] at hn
    split at hn
    · rename_i hjl
      have:=hcell j (by omega)
      rw[a1z] at this
      have e:zs.getD j 0=n:=by simp[List.getD,hn]
      rw[e] at this
      exact cell_of this
    · simp at hn
end
section
variable {H : Type} {enc : TypeId × Value → H} {w : World} {spare : Nat → Bool} {held : Bool} {fuel : Nat} {x : DataW H × List MemPlace} {cs : List Value}
end
section
variable {P : Program} {n lo : Nat} {B : List Nat} {l : Fr} {os : List Own} {u : World} {dst : Option Tmp} {ty : TypeId} {pos : String} {af : Array Edge} {gd : Option (Nat × Bool)}
theorem Mem.rx{i b o c m j:Nat}{e:TypeId}{vs:List Value}{x:Value}(hi:os[i]?=some (rxO e (.slice (some ⟨b,o,none⟩) m c) m vs))(hx:vs[0 + j * 1]?=some x):Mem lo B u os λw=>Cell w b (o + j * 1) x:=λw hw=>by
  have h:RxRow w e (.slice (some ⟨b,o,none⟩) m c) m vs:=hw.prs _ (List.mem_of_getElem? hi)
  rcases h.2 with⟨h2,h3⟩|⟨g,o',cap,cur,h2,hg,h4,h5,h7⟩
  · cases h2
  · cases h2
    refine⟨cur,e,(0,0),hg, ?_⟩
    rw[<- h7,List.getElem?_take] at hx
    split at hx
    · rw[List.getElem?_drop] at hx
      simpa using hx
    · simp at hx
end
inductive RowX:List Own->TypeId->Value->List Int->Prop
  | a {e:TypeId} {v:Value} {m:Nat} {xs:List Int} {r:List Own}:RowX (rxO e v m (ints_ xs)::r) e v xs
  | s {e:TypeId} {v:Value} {xs:List Int} {q:Own} {r:List Own} (h:RowX r e v xs):RowX (q::r) e v xs
theorem RowX.get{os:List Own}{e:TypeId}{v:Value}{xs:List Int}(h:RowX os e v xs){w:World}:(∀ o∈os,o.pr w)->(Ty.ints e xs).ok w v:=by
  induction h with
  | a=>intro hp;exact ints_rxok (hp _ List.mem_cons_self)
  | s _ ih=>intro hp;exact ih λq hq=>hp q (by simp[hq])
end Go.Proofs.YtjgohnaobbphpaaGreatDoor
namespace Go.Proofs.YtjgohnaobbphpaaGreatDoor.M
end Go.Proofs.YtjgohnaobbphpaaGreatDoor.M
namespace Go.Proofs.YtjgohnaobbphpaaGreatDoor
open Go.RowKit
def addO:Value->Nat->Value
  | .pointer (some ⟨b,o,none⟩),k=>.pointer (some ⟨b,o + k,none⟩)
  | v,_=>v
theorem flag_get {r : M.Rul} {y : List UInt8} (h : y ∈ M.fNames) :
    [Value.int .i64 r.pits,.int .i64 r.seeds,.bool r.stores,.bool r.skip,.bool r.relay,.bool r.feed,.bool r.again,.int .i64 r.capture,.int .i64 r.slam][0 + M.flagIx y]?=some (.bool (M.flagB r y)):=by
  simp only[M.fNames,List.mem_cons,List.not_mem_nil,or_false] at h
  rcases h with rfl|rfl|rfl|rfl|rfl <;> rfl
instance {n:Int}:LenB (M.capName n) 9:=⟨M.a6e n⟩
instance {n:Int}:LenB (M.slamName n) 7:=⟨M.a5i n⟩
instance {r:M.Rul}:LenB (M.rulesT r) 155:=⟨M.a4h r⟩
instance {a b c:Int}:LenB (M.recLine a b c) 66:=⟨M.a1s a b c⟩
theorem a8k {g : Nat} {e : TypeId} {fz : Nat × Nat} : ∀ (vs : List Value) (o : Nat) (w : World) (cur : Array Value), w.heap[g]? = some (.cells cur e fz) →
    (∃ cur',(w.setCells g o vs).heap[g]?=some (.cells cur' e fz)/\cur'.size=cur.size)/\w.grownBy (w.setCells g o vs) (some g)
  | [],o,w,cur,h=>⟨⟨cur,h,rfl⟩,⟨rfl,rfl,rfl,Nat.le_refl _,λ_ _ _=>rfl⟩⟩
  | v::vs,o,w,cur,h=>by
    have h1:(w.setCell ⟨g,o,none⟩ v).heap[g]?=some (.cells (cur.setIfInBounds o v) e fz):=by
      simp[World.setCell,Array.getElem?_modify,h]
    obtain⟨⟨cur',h2,h3⟩,h4⟩:=a8k vs (o + 1) (w.setCell ⟨g,o,none⟩ v) _ h1
    refine⟨⟨cur',h2,by rw[h3];simp⟩,⟨h4.os,h4.tape,h4.output, ?_,λk hk hn=>?_⟩⟩
    · refine Nat.le_trans ?_ h4.size;simp[World.setCell]
    · rw[World.setCells,h4.block k (by simpa[World.setCell] using hk) hn]
      have:g≠k:=λe=>hn (by rw[e])
      simp[World.setCell,Array.getElem?_modify,this]
theorem a8p{w:World}:∀ l:List (List UInt8),cellsOk w (l.map Ty.str) (txs_ l)
  | []=>trivial
  | x::l=>⟨rfl,a8p l⟩
theorem a4g{w:World}{e:TypeId}{n:Nat}{v:Value}{xs:List (List UInt8)}{g:List Nat}(h:(rowO e 1 v n (txs_ xs) g).pr w):(Ty.strs e xs).ok w v:=by
  have hl:n=xs.length:=by have:=h.1;rw[List.length_map] at this;omega
  subst hl
  exact row_ok h (a8p xs)
def ownsRowS(w:World)(e:TypeId)(v:Value)(n:Nat)(xs:List Value):Prop :=
  xs.length=n/\∃ g cap cur fz,v=.slice (some ⟨g,0,none⟩) n cap/\w.heap[g]?=some (.cells cur e fz)/\(fz.2=0\/cap<=fz.1)/\n<=cap/\cap<=maxLen/\cur.size=cap/\cur.toList.take n=xs
def rowS(e:TypeId)(v:Value)(n:Nat)(vs:List Value)(g:List Nat):Own:=⟨v.ownBlock.toList++g,λw=>ownsRowS w e v n vs,fun {w w'} h k=>by
  refine⟨k.1, ?_⟩
  obtain⟨_,g,cap,cur,fz,rfl,hg,r⟩:=k
  exact⟨g,cap,cur,fz,rfl,by rw[h g (by simp[Value.ownBlock])];exact hg,r⟩⟩
theorem ownsRowS.cell{w:World}{e:TypeId}{g n cap:Nat}{xs:List Value}(h:ownsRowS w e (.slice (some ⟨g,0,none⟩) n cap) n xs)(j:Nat)(u:Value)(hu:xs[j]?=some u):w.cell? ⟨g,j,none⟩=some u:=by
  obtain⟨_,g',cap',cur,fz,hv,hg,_,_,_,_,ht⟩:=h
  injection hv with hv _ _
  injection hv with hv
  injection hv with hv _ _
  subst hv
  rw[<- ht,List.getElem?_take] at hu
  split at hu
  · simp[World.cell?,hg];simpa using hu
  · cases hu
section
variable {P : Program}
theorem b5i (w : World) (t tx ty e : TypeId) (i : TypeInfo) (z : Value) (ht : P.underlying t = some (.slice e)) (hi : P.info? e = some i) (hz : i.zero = some z) (hsize : i.size = 1) (hzs : z.cells.size = 1)
    (v:Value) (n:Nat) (xs:List Value) (hown:ownsRowS w e v n xs) (x:Value) (m:Nat) (news:List Value) (hs:Src P 1 tx x m news w) (h63:n + m<=maxLen) (hbytes:(n + m) * i.bytes<=140737488355328) :
    ∃ v' w',(Builtin.append_ #[t,tx] ty #[v,x]).run P w=.ok v' w'/\ownsRowS w' e v' (n + m) (xs++news)/\w.grownBy w' v.ownBlock/\(v'.ownBlock=v.ownBlock\/v'.ownBlock=some w.heap.size):=by
  have hsmall:n + m<=9223372036854775807:=by simp only[maxLen] at h63;omega
  have hs':Src P i.size tx x m news w:=by rw[hsize];exact hs
  have hnl:news.length=m:=by have:=hs.newsLen;omega
  have hown0:=hown
  obtain⟨hxl,g,cap,cur,fz,rfl,hg,hfz,hnc,hcm,hcs,htake⟩:=hown
  have hlen:(xs++news).length=n + m:=by rw[List.length_append,hxl,hnl]
  by_cases hroom:n + m<=cap
  · have hr := run_append_room_src (P := P) w t tx ty e i ht hi g 0 n cap x m news hs' hroom
      (λj hj=>by
        rw[hsize];simp[World.cell?,hg];omega)
      (λj hj=>by
        obtain⟨lo,hi'⟩:=fz
        rw[hsize]
        simp only[World.frozen?,hg,Bool.and_eq_false_iff,decide_eq_false_iff_not]
        simp only at hfz
        rcases hfz with h|h
        · right;omega
        · left;omega)
    obtain⟨⟨cur',h1,h2⟩,h3⟩:=a8k news (0 + n * i.size) w cur hg
    refine⟨_,_,hr,⟨hlen,g,cap,cur',fz,rfl,h1,hfz,hroom,hcm,by omega, ?_⟩,h3,.inl rfl⟩
    refine List.ext_getElem? λj=>?_
    have hcell:∀ j,cur'.toList[j]?=(w.setCells g (0 + n * i.size) news).cell? ⟨g,j,none⟩:=λj=>by unfold World.cell?;rw[h1];simp
    rw[List.getElem?_take]
    split
    · rename_i hj
      rw[hcell]
      by_cases hjn:j < n
      · rw[World.cell?_setCells_out g news _ w _ (λ_ _=>.inl (by rw[hsize];show j < _;omega)),List.getElem?_append_left (by omega)]
        have hx:xs[j]?=some xs[j]:=List.getElem?_eq_getElem (by omega)
        rw[hx];exact hown0.cell j _ hx
      · have := World.cell?_setCells_in g news (0 + n * i.size) w (fun k hk => by
          rw[hsize];simp[World.cell?,hg];omega) (j - n) (by omega)
        rw[show 0 + n * i.size + (j - n)=j by rw[hsize];omega] at this
        rw[this,List.getElem?_append_right (by omega),hxl,List.getElem?_eq_getElem (by omega)]
    · rename_i hj
      rw[List.getElem?_eq_none (by omega)]
  · have hr := run_append_grow_src (P := P) w t tx ty e i z ht hi hz (some ⟨g, 0, none⟩) n cap xs (run_firstCells_some w.drew i.size n _ n cap xs (by rw [hsize]; omega) (fun j u hu => by
        have:(⟨g,0,none⟩:Addr).add j=⟨g,j,none⟩:=by rw[a1z,Nat.zero_add]
        rw[this];exact hown0.cell j u hu)) x m news hs' (by omega) (by omega) (growslice_fits (by omega) hbytes)
    have hge:=grownCap_ge w (n + m) cap e
    have hcm':grownCap w (n + m) cap e<=maxLen:=grownCap_le_maxLen w (n + m) cap e h63
    refine⟨_,_,hr,⟨hlen,w.heap.size,_,_,(0,0),rfl,heap_alloc_new w.drew _,.inl rfl,hge,hcm', ?_, ?_⟩,⟨rfl,rfl,rfl,by simp,λk hk _=>Below.heap_alloc w.drew _ k hk⟩,.inr rfl⟩
    · simp only[Array.size_append,List.size_toArray,size_zeroCells,hzs,hlen];omega
    · simp only[Array.toList_append]
      rw[<- hlen]
      exact List.take_left
variable {n lo : Nat} {B : List Nat} {l : Fr} {os : List Own} {u : World} {dst : Option Tmp} {ty : TypeId} {pos : String} {af : Array Edge} {gd : Option (Nat × Bool)}
theorem a4f{i m:Nat}{e:TypeId}{v:Value}{vs:List Value}{g:List Nat}(hi:os[i]?=some (rowS e v m vs g)):∀ w,St lo B u w os->∃ A c,v=.slice A m c/\m<=c/\c<=9223372036854775807:=λw hw=>by
  obtain⟨_,b,c,cur,fz,rfl,_,_,h1,h2,_⟩:=hw.prs _ (List.mem_of_getElem? hi)
  exact⟨_,_,rfl,h1,by unfold maxLen at h2;omega⟩
theorem a6t {x y : Operand} {t tx e : TypeId} {i m k n' by' : Nat} {z xs news vs' : List Value} {v yv : Value} {g : List Nat} (ht : elOf P t = some (e, 1, by', z)) (hzl : Nat.beq z.length 1 = true) (hx : opd l x = some v) (hi : os[i]? = some (rowS e v m xs g)) (hy : opd l y = some yv)
    (hs:∀ w,St lo B u w os->Src P 1 tx yv k news w) (h63:m + k<=9223372036854775807) (hb:(m + k) * by'<=140737488355328) (hn':m + k=n') (hvs:xs++news=vs') :
    OpE P n lo B l os u ⟨dst,.call { callee:=.builtin .append,args:=#[x,y],argTypes:=#[t,tx] },ty,pos,af,gd⟩ false
      (λv' os' u'=>(∃ g',os'=os.set i (rowS e v' n' vs' g'))/\u=u'):=λa w ha hw K Q hk=>by
  subst hn';subst hvs
  unfold elOf at ht
  split at ht
  · rename_i e' hu
    split at ht
    · rename_i i' hi'
      split at ht
      · rename_i zv hzz
        simp only[Option.some.injEq,Prod.mk.injEq] at ht
        obtain⟨rfl,hs1,rfl,rfl⟩:=ht
        have hzl:zv.cells.size=1:=by simpa[Nat.beq_eq] using hzl
        have hown:ownsRowS w e' v m xs:=hw.prs _ (List.mem_of_getElem? hi)
        obtain⟨v',w',hr,ho',hgr,hat⟩:=b5i (P:=P) w t tx ty e' i' zv hu hi' hzz hs1 hzl v m xs hown yv k news (hs w hw) (by unfold maxLen;omega) hb
        have hdis:(v.ownBlock.toList++g).Nodup:=by
          exact a7m hw.dis (List.mem_of_getElem? hi)
        have hlt:∀ k,v'.ownBlock=some k->k < w'.heap.size:=λk hk=>by
          obtain⟨_,b,_,_,_,rfl,hg,_⟩:=ho'
          simp[Value.ownBlock] at hk;subst hk
          exact(Array.getElem?_eq_some_iff.1 hg).1
        unfold Oper.wp execOp
        simp only[resolve,invoke,builtin,Sem.run_bind,Sem.run_pure,Result.andThen_ok,List.map_toArray,List.map_cons,List.map_nil,ha.eval hx,ha.eval hy,hr]
        rcases Classical.em (v'.ownBlock=v.ownBlock) with he|he
        · refine hk v' _ u w' ⟨⟨g,rfl⟩,rfl⟩ (Up.refl lo u) (hw.upd hi hgr.os hgr.tape hgr.output hgr.size (λk hk hn=>hgr.block k hk λe=>hn (by simp[rowS,<- e])) (λk hk=>.inl (by simpa[rowS,he] using hk)) (by simpa[rowS,he] using hdis) ho' (λk hk _=>by simpa[rowS,he] using hk)) (λh=>by cases h)
        · have hnew:v'.ownBlock=some w.heap.size:=hat.resolve_left he
          refine hk v' _ u w' ⟨⟨v.ownBlock.toList++g,rfl⟩,rfl⟩ (Up.refl lo u) (hw.upd hi hgr.os hgr.tape hgr.output hgr.size (λk hk hn=>hgr.block k hk λe=>hn (by simp[rowS,<- e])) (λk hk=>?_) ?_ ho' (λk hk _=>by simp only[rowS] at hk ⊢;exact List.mem_append_right _ hk)) (λh=>by cases h)
          · simp only[rowS,hnew,Option.toList_some,List.mem_append,List.mem_singleton] at hk ⊢
            rcases hk with rfl|hk
            · exact .inr ⟨Nat.le_refl _,hlt _ hnew⟩
            · exact .inl hk
          · simp only[rowS,hnew,Option.toList_some]
            rw[List.nodup_append]
            refine⟨by simp,hdis,λa' ha' b' hb' e=>?_⟩
            simp only[List.mem_singleton] at ha'
            subst ha';subst e
            have:=(hw.hid _ (List.mem_of_getElem? hi) _ (by simpa[rowS] using hb')).1
            omega
      · simp at ht
    · simp at ht
  · simp at ht
theorem b5w {x : Operand} {src dt e : TypeId} {a0 : List UInt8} {k : Nat} [hl : LenB a0 k] (hs : P.underlying src = some .string) (hd : P.underlying dt = some (.slice e)) (he : P.underlying e = some (.int .u8)) (hx : opd l x = some (.string (sB a0))) (hk9 : Nat.ble k 9223372036854775807 = true := by rfl) :
    OpE P n lo B l os u ⟨dst,.convert src dt x,ty,pos,af,gd⟩ true (λv' os' u'=>os'=rowS e v' a0.length (byt_ a0) []::os/\u=u'):=λa w ha hw K Q hk=>by
  have hkk:k<=9223372036854775807:=by simpa[Nat.ble_eq] using hk9
  have hsz:(sB a0).size=a0.length:=by simp[sB,ByteArray.size]
  have hr:=run_bytes_of_string (P:=P) w src dt e (sB a0) hs hd he
  have hge:=grownCap_ge w (sB a0).size 0 e
  have hcm:grownCap w (sB a0).size 0 e<=maxLen:=grownCap_le_maxLen w _ 0 e (by rw[hsz];have:=hl.h;unfold maxLen;omega)
  have hbs:(bytesRow (sB a0) (grownCap w (sB a0).size 0 e)).size=grownCap w (sB a0).size 0 e:=by
    simp only[bytesRow,Array.size_append,Array.size_map,Array.size_replicate]
    have h9:(sB a0).data.size=a0.length:=hsz
    rw[h9];omega
  unfold Oper.wp execOp
  simp only[ha.eval hx,Sem.run_bind,hr,Result.andThen_ok,Sem.run_pure]
  have hx9:Ext w (w.drew.alloc (.cells (bytesRow (sB a0) (grownCap w (sB a0).size 0 e)) e ((bytesRow (sB a0) (grownCap w (sB a0).size 0 e)).size,(bytesRow (sB a0) (grownCap w (sB a0).size 0 e)).size + 1))):=by
    refine⟨rfl,rfl,rfl, ?_,λa ha=>?_⟩
    · show w.heap.size<=(w.heap.push _).size;simp
    · exact Below.heap_alloc w.drew _ a ha
  refine hk _ _ u _ ⟨rfl,rfl⟩ (Up.refl lo u) (St.new (o:=rowS e (.slice (some ⟨w.heap.size,0,none⟩) (sB a0).size (grownCap w (sB a0).size 0 e)) a0.length (byt_ a0) []) hw hx9 (λk hk=>?_) ?_ ?_) (λ_=>hx9)
  · simp only[rowS,Value.ownBlock,Option.toList_some,List.append_nil,List.mem_singleton] at hk
    subst hk;refine⟨Nat.le_refl _, ?_⟩;show w.heap.size < (w.heap.push _).size;simp
  · simp[rowS,Value.ownBlock]
  · refine⟨b2e _,w.heap.size,_,_,_,by rw[<- hsz],heap_alloc_new w.drew _,.inr (by rw[hbs];exact Nat.le_refl _),by omega,hcm,hbs, ?_⟩
    simp only[bytesRow,Array.toList_append,Array.toList_map]
    show List.take a0.length (byt_ a0++_)=byt_ a0
    exact List.take_left' (b2e a0)
theorem b1z {x : Operand} {src dt e e' : TypeId} {i m c : Nat} {A : Option Addr} {xs : List UInt8} {g : List Nat} (hs : P.underlying src = some (.slice e)) (he : P.underlying e = some (.int .u8)) (hd : P.underlying dt = some .string)
    (hx:opd l x=some (.slice A m c)) (hi:os[i]?=some (rowS e' (.slice A m c) m (byt_ xs) g)):OpQ P n lo B l os u ⟨dst,.convert src dt x,ty,pos,af,gd⟩ (.string (sB xs)):=λa w ha hw=>by
  have hp:ownsRowS w e' (.slice A m c) m (byt_ xs):=hw.prs _ (List.mem_of_getElem? hi)
  have hl:m=xs.length:=by have:=hp.1;rw[b2e] at this;omega
  subst hl
  have key:(convert src dt (.slice A xs.length c)).run P w=.ok (.string (sB xs)) w:=by
    obtain⟨_,b,c',cur,fz,h2,_⟩:=id hp
    injection h2 with h2 _ h3
    subst h2
    exact run_convert_bytes_back w src dt e ⟨b,0,none⟩ c xs hs he hd (λj hj=>by
      rw[a1z,Nat.zero_add]
      exact hp.cell j _ (by simp[byt_,List.getElem?_eq_getElem hj]))
  simp only[execOp,ha.eval hx,Sem.run_bind,key,Result.andThen_ok,Sem.run_pure]
end
section
variable {P : Program} {n lo : Nat} {B : List Nat} {l : Fr} {os : List Own} {u : World} {dst : Option Tmp} {ty : TypeId} {pos : String} {af : Array Edge} {gd : Option (Nat × Bool)} {x y z : Operand} {t : TypeId} {a : List UInt8} {i j : Nat} {k k' : IntKind}
theorem a7w(a:List UInt8):(sB a).size=a.length:=by simp[sB,ByteArray.size]
theorem a7t(a:List UInt8)(i j:Nat):(sB a).extract i j=sB ((a.drop i).take (j - i)):=ByteArray.extract_mk a i j
theorem a4o(hu:P.underlying t=some .string)(hx:opd l x=some (.string (sB a)))(hy:opd l y=some (.int k i))(h:i<=a.length):OpP P n l ⟨dst,.slice t x none (some y) none,ty,pos,af,gd⟩ (.string (sB (a.take i))):=λc w ha=>by
  have:=run_slice_string_h (P:=P) w t (sB a) hu k i (by omega) (by rw[a7w];omega)
  rw[a7t] at this
  simp only[Int.toNat_natCast,Nat.sub_zero,List.drop_zero] at this
  simp only[execOp,Option.map_none,Option.map_some,ha.eval hx,ha.eval hy,Sem.run_bind,run_sliceAt_string _ t _ _ _ _ hu,this,Result.andThen_ok,Sem.run_pure]
theorem a4m(hu:P.underlying t=some .string)(hx:opd l x=some (.string (sB a)))(hy:opd l y=some (.int k i))(h:i<=a.length):OpP P n l ⟨dst,.slice t x (some y) none none,ty,pos,af,gd⟩ (.string (sB (a.drop i))):=λc w ha=>by
  have:=run_slice_string_l (P:=P) w t (sB a) hu k i (by omega) (by rw[a7w];omega)
  rw[a7t,a7w] at this
  simp only[Int.toNat_natCast] at this
  rw[List.take_of_length_le (by simp)] at this
  simp only[execOp,Option.map_none,Option.map_some,ha.eval hx,ha.eval hy,Sem.run_bind,run_sliceAt_string _ t _ _ _ _ hu,this,Result.andThen_ok,Sem.run_pure]
theorem p_midS(hu:P.underlying t=some .string)(hx:opd l x=some (.string (sB a)))(hy:opd l y=some (.int k i))(hz:opd l z=some (.int k' j))(h1:i<=j)(h2:j<=a.length):OpP P n l ⟨dst,.slice t x (some y) (some z) none,ty,pos,af,gd⟩ (.string (sB ((a.drop i).take (j - i)))):=λc w ha=>by
  have:=run_slice_string (P:=P) w t (sB a) k k' i j hu (by omega) (by omega) (by rw[a7w];omega)
  rw[a7t] at this
  simp only[Int.toNat_natCast] at this
  simp only[execOp,Option.map_none,Option.map_some,ha.eval hx,ha.eval hy,ha.eval hz,Sem.run_bind,run_sliceAt_string _ t _ _ _ _ hu,this,Result.andThen_ok,Sem.run_pure]
theorem a1w(hu:P.underlying t=some .string)(hx:opd l x=some (.string (sB a)))(hy:opd l y=some (.int k i))(h:i < a.length):OpP P n l ⟨dst,.index t x y,ty,pos,af,gd⟩ (.int .u8 (M.bat a i)):=λc w ha=>by
  have:=run_index_string (P:=P) w t (sB a) k i hu
  rw[dif_pos ⟨by omega,by rw[a7w];omega⟩] at this
  have e:((sB a)[(i:Int).toNat]'(by rw[a7w];omega))=a[i]:=rfl
  have e2:M.bat a i=(a[i].toNat:Int):=by simp[M.bat,List.getD,h]
  simp only[execOp,ha.eval hx,ha.eval hy,Sem.run_bind,this,Result.andThen_ok,Sem.run_pure]
  rw[e2];rfl
end
instance {a:List UInt8} {k i:Nat} [h:LenB a k]:LenB (a.take i) k:=⟨by rw[List.length_take];have:=h.h;omega⟩
instance {a:List UInt8} {k i:Nat} [h:LenB a k]:LenB (a.drop i) k:=⟨by rw[List.length_drop];have:=h.h;omega⟩
end Go.Proofs.YtjgohnaobbphpaaGreatDoor
namespace Go.Proofs.YtjgohnaobbphpaaGreatDoor.M
theorem b0l(b:UInt8):∀ {ws:List (List UInt8)},ws≠[]->(∀ w∈ws,b ∉ w)->split b (joinW b ws)=ws
  | [],h,_=>absurd rfl h
  | [w],_,h=>a1k b w (h w (by simp))
  | w::v::ws,_,h=>by
    show split b (w++b::joinW b (v::ws))=_
    rw[a1n b w _ (h w (by simp)),b0l b (ws:=v::ws) (by simp) (λu hu=>h u (List.mem_cons_of_mem _ hu))]
theorem a6b{l:List Int}(h:l≠[]):split 44 (joinT l)=l.map dec:=by
  rw[b6r]
  refine b0l 44 (by simpa using h) λw hw=>?_
  obtain⟨n,_,rfl⟩:=List.mem_map.1 hw
  exact b9q (by simp)
theorem b2x{a b:List Int}(ha:a≠[])(hb:b≠[])(h:joinT a=joinT b):a.length=b.length:=by
  have:=congrArg (λs=>(split 44 s).length) h
  simp only[a6b ha,a6b hb,List.length_map] at this
  exact this
theorem nums_ne{s:List UInt8}(h:(nums s).2=true):(nums s).1≠[]:=by
  rw[a6n (nums_ok h)]
  intro e
  have:=congrArg List.length e
  simp only[numsV,List.length_map,List.length_nil] at this
  exact a4q 44 s (List.eq_nil_of_length_eq_zero this)
def w3(s:List UInt8)(i:Nat):List UInt8:=(split 32 s).getD i []
def x2(s:List UInt8)(i:Nat):List UInt8:=(split 47 (w3 s 1)).getD i []
def readP0(s:List UInt8):Pos×Bool :=
  if (split 32 s).length=3/\(split 47 (w3 s 1)).length=2/\(num (w3 s 0)).2=true/\(nums (x2 s 0)).2=true/\(nums (x2 s 1)).2=true/\(nums (w3 s 2)).2=true/\(nums (x2 s 0)).1.length=(nums (x2 s 1)).1.length
  then(⟨(nums (x2 s 0)).1++(nums (x2 s 1)).1,(nums (w3 s 2)).1,(num (w3 s 0)).1⟩,true) else(Pos.zero,false)
def readP(r:Rul)(s:List UInt8):Pos×Bool:=if (readP0 s).2=true/\okP r (readP0 s).1=true then((readP0 s).1,true) else(Pos.zero,false)
theorem b2h{r:Rul}{s:List UInt8}(h:(readP0 s).2=false):readP r s=(Pos.zero,false):=by unfold readP;rw[if_neg (by simp[h])]
theorem a4a{s:List UInt8}(h:¬ ((split 32 s).length=3/\(split 47 (w3 s 1)).length=2/\(num (w3 s 0)).2=true/\(nums (x2 s 0)).2=true/\(nums (x2 s 1)).2=true/\(nums (w3 s 2)).2=true/\(nums (x2 s 0)).1.length=(nums (x2 s 1)).1.length)):readP0 s=(Pos.zero,false):=by
  unfold readP0;rw[if_neg h]
theorem split_two{b:UInt8}{s:List UInt8}(h:(cutS s [b]).2.2=true)(hb:b ∉ (cutS s [b]).2.1):split b s=[(cutS s [b]).1,(cutS s [b]).2.1]:=by
  rcases a3e b s with⟨_,h2,_⟩|⟨h2,_⟩
  · rw[h2,a1k b _ hb]
  · rw[h] at h2;simp at h2
def first5(s:List UInt8):Prop:=(num (w3 s 0)).2=true/\(cutS (w3 s 1) [47]).2.2=true/\(nums (cutS (w3 s 1) [47]).1).2=true/\(nums (cutS (w3 s 1) [47]).2.1).2=true/\(nums (w3 s 2)).2=true
theorem first_x{s:List UInt8}(h:first5 s):split 47 (w3 s 1)=[(cutS (w3 s 1) [47]).1,(cutS (w3 s 1) [47]).2.1]:=by
  obtain⟨_,h2,_,h4,_⟩:=h
  refine split_two h2 ?_
  rw[<- a9j h4];exact a2s (by simp)
theorem first_no{s:List UInt8}(h:¬ first5 s):readP0 s=(Pos.zero,false):=a4a fun ⟨_,h2,h3,h4,h5,h6,_⟩=>by
  apply h
  rcases a3e 47 (w3 s 1) with⟨c1,c2,_⟩|⟨_,c2⟩
  · rw[c2] at h2
    have hl:(split 47 (cutS (w3 s 1) [47]).2.1).length=1:=by simpa using h2
    have hj:=a1e 47 (cutS (w3 s 1) [47]).2.1
    obtain⟨v,hv⟩:=List.length_eq_one_iff.1 hl
    rw[hv] at hj
    have hj:v=(cutS (w3 s 1) [47]).2.1:=hj
    have e0:x2 s 0=(cutS (w3 s 1) [47]).1:=by unfold x2;rw[c2];rfl
    have e1:x2 s 1=(cutS (w3 s 1) [47]).2.1:=by unfold x2;rw[c2,hv,hj];rfl
    rw[e0] at h4;rw[e1] at h5
    exact⟨h3,c1,h4,h5,h6⟩
  · rw[c2] at h2;simp at h2
def readQ(s:List UInt8):Pos:=⟨(nums (cutS (w3 s 1) [47]).1).1++(nums (cutS (w3 s 1) [47]).2.1).1,(nums (w3 s 2)).1,(num (w3 s 0)).1⟩
theorem b4o{s:List UInt8}(h3:(split 32 s).length=3)(h:first5 s):readP0 s=if (nums (cutS (w3 s 1) [47]).1).1.length=(nums (cutS (w3 s 1) [47]).2.1).1.length then(readQ s,true) else(Pos.zero,false):=by
  have hx:=first_x h
  have e0:x2 s 0=(cutS (w3 s 1) [47]).1:=by unfold x2;rw[hx];rfl
  have e1:x2 s 1=(cutS (w3 s 1) [47]).2.1:=by unfold x2;rw[hx];rfl
  obtain⟨a,b,c,d,e⟩:=h
  by_cases hl:(nums (cutS (w3 s 1) [47]).1).1.length=(nums (cutS (w3 s 1) [47]).2.1).1.length
  · rw[if_pos hl];unfold readP0 readQ
    rw[if_pos ⟨h3,by rw[hx];rfl,a,by rw[e0];exact c,by rw[e1];exact d,e,by rw[e0,e1];exact hl⟩,e0,e1]
  · rw[if_neg hl]
    exact a4a fun ⟨_,_,_,_,_,_,h9⟩=>hl (by rw[e0,e1] at h9;exact h9)
theorem read_text{s:List UInt8}(h3:(split 32 s).length=3)(h:first5 s):s=dec (readQ s).player++32::((joinT (nums (cutS (w3 s 1) [47]).1).1++47::joinT (nums (cutS (w3 s 1) [47]).2.1).1)++32::joinT (readQ s).stores):=by
  have hx:=first_x h
  have hj:=a1e 32 s
  have hk:=a1e 47 (w3 s 1)
  rw[hx] at hk
  obtain⟨w0,w1,w2,hw⟩:∃ w0 w1 w2,split 32 s=[w0,w1,w2]:=by
    match hs:split 32 s,h3 with
    | [w0,w1,w2],_=>exact⟨w0,w1,w2,rfl⟩
  have e0:w3 s 0=w0:=by unfold w3;rw[hw];rfl
  have e1:w3 s 1=w1:=by unfold w3;rw[hw];rfl
  have e2:w3 s 2=w2:=by unfold w3;rw[hw];rfl
  obtain⟨a,b,c,d,e⟩:=h
  unfold readQ
  show s=dec (num (w3 s 0)).1++32::((joinT (nums (cutS (w3 s 1) [47]).1).1++47::joinT (nums (cutS (w3 s 1) [47]).2.1).1)++32::joinT (nums (w3 s 2)).1)
  rw[b6j a,a9j c,a9j d,a9j e]
  have hk:(cutS (w3 s 1) [47]).1++47::(cutS (w3 s 1) [47]).2.1=w3 s 1:=hk
  rw[hk,e0,e1,e2]
  rw[hw] at hj
  exact hj.symm
theorem b2d{b:UInt8}:∀ {p q x y:List UInt8},b ∉ p->b ∉ q->p++b::x=q++b::y->p=q/\x=y
  | [],[],x,y,_,_,h=>⟨rfl,by simpa using h⟩
  | [],c::q,x,y,_,hq,h=>by simp at h;exact absurd h.1 (λe=>hq (by simp[e]))
  | c::p,[],x,y,hp,_,h=>by simp at h;exact absurd h.1 (λe=>hp (by simp[e]))
  | c::p,d::q,x,y,hp,hq,h=>by
    simp only[List.cons_append,List.cons.injEq] at h
    obtain⟨rfl,h⟩:=h
    obtain⟨h1,h2⟩:=b2d (λhm=>hp (List.mem_cons_of_mem _ hm)) (λhm=>hq (List.mem_cons_of_mem _ hm)) h
    exact⟨by rw[h1],h2⟩
theorem a8e(p:Pos):posText p=dec p.player++32::((joinT (p.pits.take (p.pits.length / 2))++47::joinT (p.pits.drop (p.pits.length / 2)))++32::joinT p.stores):=by
  unfold posText;simp
theorem b4y{r:Rul}{s:List UInt8}(h3:(split 32 s).length=3)(h:first5 s)(ho:okP r (readQ s)=true):posText (readQ s)=s↔(nums (cutS (w3 s 1) [47]).1).1.length=(nums (cutS (w3 s 1) [47]).2.1).1.length:=by
  have ht:=read_text h3 h
  obtain⟨a,b,c,d,e⟩:=h
  have hp:(readQ s).pits=(nums (cutS (w3 s 1) [47]).1).1++(nums (cutS (w3 s 1) [47]).2.1).1:=rfl
  constructor
  · intro he
    rw[a8e] at he
    replace he:=he.trans ht
    obtain⟨_,he⟩:=b2d (b:=32) (b9q (c:=32) (.inl rfl)) (b9q (c:=32) (.inl rfl)) he
    have nb:∀ x y:List Int,(32:UInt8) ∉ joinT x++47::joinT y:=λx y hm=>by
      rcases List.mem_append.1 hm with hm|hm
      · exact a2s (c:=32) (.inl rfl) hm
      · rcases List.mem_cons.1 hm with hm|hm
        · exact absurd hm (by decide)
        · exact a2s (c:=32) (.inl rfl) hm
    obtain⟨he,_⟩:=b2d (b:=32) (nb _ _) (nb _ _) he
    obtain⟨he,_⟩:=b2d (b:=47) (a2s (c:=47) (.inr rfl)) (a2s (c:=47) (.inr rfl)) he
    have hb:=a0y ho
    have hne:(readQ s).pits.take ((readQ s).pits.length / 2)≠[]:=λhn=>by
      have:=congrArg List.length hn
      rw[List.length_take,List.length_nil] at this;omega
    have hnc:(nums (cutS (w3 s 1) [47]).1).1≠[]:=nums_ne (s:=(cutS (w3 s 1) [47]).1) c
    have:=b2x (a:=(readQ s).pits.take ((readQ s).pits.length / 2)) (b:=(nums (cutS (w3 s 1) [47]).1).1) hne hnc he
    rw[List.length_take] at this
    have hl:=congrArg List.length hp
    rw[List.length_append] at hl
    omega
  · intro hl
    have h2:(readQ s).pits.length / 2=(nums (cutS (w3 s 1) [47]).1).1.length:=by rw[hp,List.length_append];omega
    rw[a8e,h2,hp,List.take_left,List.drop_left]
    exact ht.symm
theorem a9w{s:List UInt8}{i:Nat}(h:i < (split 32 s).length):(split 32 s)[i]?=some (w3 s i):=by
  unfold w3;rw[List.getD_eq_getElem?_getD,List.getElem?_eq_getElem h];rfl
theorem a6p{s:List UInt8}{i:Nat}:(w3 s i).length<=s.length:=by
  by_cases h:i < (split 32 s).length
  · exact a1f 32 s _ (List.mem_of_getElem? (a9w h))
  · unfold w3;rw[List.getD_eq_getElem?_getD,List.getElem?_eq_none (Nat.le_of_not_lt h)];simp
theorem x2_get{s:List UInt8}{i:Nat}(h:i < (split 47 (w3 s 1)).length):(split 47 (w3 s 1))[i]?=some (x2 s i):=by
  unfold x2;rw[List.getD_eq_getElem?_getD,List.getElem?_eq_getElem h];rfl
theorem x2_len{s:List UInt8}{i:Nat}:(x2 s i).length<=s.length:=by
  by_cases h:i < (split 47 (w3 s 1)).length
  · exact Nat.le_trans (a1f 47 _ _ (List.mem_of_getElem? (x2_get h))) a6p
  · unfold x2;rw[List.getD_eq_getElem?_getD,List.getElem?_eq_none (Nat.le_of_not_lt h)];simp
theorem cutS_len2(s sep:List UInt8):(cutS s sep).1.length + (cutS s sep).2.1.length<=s.length:=by
  unfold cutS;split
  · rename_i k h
    rw[List.find?_range_eq_some] at h
    have:=h.1;unfold hit at this;simp only[Bool.and_eq_true,decide_eq_true_eq] at this
    simp only[List.length_take,List.length_drop];omega
  · simp
theorem x2_sum{s:List UInt8}(h:(split 47 (w3 s 1)).length=2):(x2 s 0).length + (x2 s 1).length + 1=(w3 s 1).length:=by
  have hj:=a1e 47 (w3 s 1)
  obtain⟨a,b,hw⟩:∃ a b,split 47 (w3 s 1)=[a,b]:=by
    match hs:split 47 (w3 s 1),h with
    | [a,b],_=>exact⟨a,b,rfl⟩
  have e0:x2 s 0=a:=by unfold x2;rw[hw];rfl
  have e1:x2 s 1=b:=by unfold x2;rw[hw];rfl
  rw[hw] at hj
  rw[e0,e1,<- hj]
  simp[joinW];omega
theorem a6k{r:Rul}{s:List UInt8}(h:(split 32 s).length≠3):readP r s=(Pos.zero,false) :=
  b2h (congrArg Prod.snd (a4a fun ⟨h1,_⟩=>h h1))
theorem a9q{r:Rul}{s:List UInt8}(h:¬ first5 s):readP r s=(Pos.zero,false):=b2h (congrArg Prod.snd (first_no h))
theorem b6b{r:Rul}{s:List UInt8}(h3:(split 32 s).length=3)(h:first5 s)(hb:okP r (readQ s)=false\/posTextR r (readQ s)≠s):readP r s=(Pos.zero,false):=by
  have hf:=b4o h3 h
  by_cases hl:(nums (cutS (w3 s 1) [47]).1).1.length=(nums (cutS (w3 s 1) [47]).2.1).1.length
  · rw[if_pos hl] at hf
    unfold readP
    rw[if_neg]
    rintro⟨h1,h2⟩
    rw[hf] at h2
    rcases hb with hb|hb
    · rw[hb] at h2;exact absurd h2 (by simp)
    · apply hb
      rw[a3u h2]
      exact(b4y h3 h h2).2 hl
  · rw[if_neg hl] at hf
    exact b2h (congrArg Prod.snd hf)
theorem b1l{r:Rul}{s:List UInt8}(h3:(split 32 s).length=3)(h:first5 s)(ho:okP r (readQ s)=true)(ht:posTextR r (readQ s)=s):readP r s=(readQ s,true):=by
  have hf:=b4o h3 h
  rw[a3u ho] at ht
  rw[if_pos ((b4y h3 h ho).1 ht)] at hf
  unfold readP
  rw[if_pos ⟨by rw[hf],by rw[hf];exact ho⟩,hf]
theorem b3s{r:Rul}{s:List UInt8}(h:(readP r s).2=true):okP r (readP r s).1=true/\(readP r s).1=readQ s/\(split 32 s).length=3/\first5 s:=by
  by_cases h3:(split 32 s).length=3
  · by_cases hf:first5 s
    · by_cases hb:okP r (readQ s)=false\/posTextR r (readQ s)≠s
      · rw[b6b h3 hf hb] at h;exact absurd h (by simp)
      · simp only[not_or,Bool.not_eq_false,Classical.not_not] at hb
        have e:=b1l h3 hf hb.1 hb.2
        rw[e];exact⟨hb.1,rfl,h3,hf⟩
    · rw[a9q hf] at h;exact absurd h (by simp)
  · rw[a6k h3] at h;exact absurd h (by simp)
theorem c0p{r:Rul}{s:List UInt8}(h:(readP r s).2=false):(readP r s).1=Pos.zero:=by
  unfold readP at h ⊢
  split
  · rename_i h1;rw[if_pos h1] at h;exact absurd h (by simp)
  · rfl
theorem b1d {s : List UInt8} (h : (split 32 s).length = 3 ∧ (split 47 (w3 s 1)).length = 2 ∧ (num (w3 s 0)).2 = true ∧ (nums (x2 s 0)).2 = true ∧ (nums (x2 s 1)).2 = true ∧ (nums (w3 s 2)).2 = true ∧ (nums (x2 s 0)).1.length = (nums (x2 s 1)).1.length) :
    readP0 s=(⟨(nums (x2 s 0)).1++(nums (x2 s 1)).1,(nums (w3 s 2)).1,(num (w3 s 0)).1⟩,true):=by unfold readP0;rw[if_pos h]
theorem readP_y{r:Rul}{s:List UInt8}(h1:(readP0 s).2=true)(h2:okP r (readP0 s).1=true):readP r s=((readP0 s).1,true):=by unfold readP;rw[if_pos ⟨h1,h2⟩]
theorem readP_n{r:Rul}{s:List UInt8}(h:¬ ((readP0 s).2=true/\okP r (readP0 s).1=true)):readP r s=(Pos.zero,false):=by unfold readP;rw[if_neg h]
theorem c0s(s:List UInt8):(readP0 s).1.pits.length<=s.length + 2/\(readP0 s).1.stores.length<=s.length + 1:=by
  unfold readP0;split
  · rename_i h
    have a:=a3h (x2 s 0);have b:=a3h (x2 s 1);have c:=a3h (w3 s 2)
    have d:=x2_sum h.2.1;have e:=a6p (s:=s) (i:=1);have f:=a6p (s:=s) (i:=2)
    simp only[List.length_append];omega
  · simp[Pos.zero]
def w5(s:List UInt8):List UInt8:=w3 s 0++[32]++w3 s 1++[32]++w3 s 2
theorem b7d{s sep:List UInt8}(h:(cutS s sep).2.2=true):s=(cutS s sep).1++sep++(cutS s sep).2.1:=by
  unfold cutS at h ⊢
  split
  · rename_i k hk
    rw[List.find?_range_eq_some] at hk
    obtain⟨h1,_,_⟩:=hk
    unfold hit at h1
    simp only[Bool.and_eq_true,decide_eq_true_eq] at h1
    show s=s.take k++sep++s.drop (k + sep.length)
    have:s.drop k=sep++s.drop (k + sep.length):=by
      rw[<- List.drop_drop]
      conv=>rhs;lhs;rw[<- h1.2]
      exact(List.take_append_drop _ _).symm
    rw[List.append_assoc,<- this,List.take_append_drop]
  · rename_i hk
    rw[hk] at h;exact absurd h (by simp)
def d2(n:Nat):List UInt8:=if n < 10 then [UInt8.ofNat (48 + n)] else [UInt8.ofNat (48 + n / 10),UInt8.ofNat (48 + n % 10)]
theorem dec_d2{n:Nat}(h:n < 100):dec (n:Int)=d2 n:=by
  rw[a4v (by omega) (by omega),Lib.itoa_nonneg]
  unfold d2
  split
  · exact Lib.decDigits_one ‹_›
  · exact Lib.decDigits_two ‹_› h
theorem num_d2:∀ n:Fin 97,(¬ ((numT (d2 n)).length < 1\/18 < (numT (d2 n)).length))/\digs (numT (d2 n))=true/\numS (d2 n)=(n.val:Int):=by decide
theorem a4n{n:Int}(h0:0<=n)(h1:n<=96):num (dec n)=(n,true):=by
  obtain⟨m,rfl⟩:=Int.eq_ofNat_of_zero_le h0
  have hm:m < 97:=by omega
  obtain⟨a,b,c⟩:=num_d2 ⟨m,hm⟩
  rw[dec_d2 (by omega)]
  rw[a3m a b (by rw[c];exact dec_d2 (by omega)),c]
theorem ok_mem{l:List Int}(h:allOk l=true):∀ x∈l,0<=x/\x<=96:=λx hx=>by
  unfold allOk at h
  exact a0r.1 (List.all_eq_true.1 h x hx)
theorem a7r{l:List Int}(hl:l≠[])(h:allOk l=true):nums (joinT l)=(l,true):=by
  have hm:=ok_mem h
  have hs:=a6b hl
  have ho:numsOk (split 44 (joinT l))=true:=by
    unfold numsOk;rw[hs,List.all_map,List.all_eq_true]
    intro x hx
    obtain⟨a,b⟩:=hm x hx
    show(num (dec x)).2=true
    rw[a4n a b]
  rw[a6n ho]
  congr 1
  unfold numsV
  rw[hs,List.map_map]
  conv=>rhs;rw[<- List.map_id l]
  refine List.map_congr_left λx hx=>?_
  obtain⟨a,b⟩:=hm x hx
  show(num (dec x)).1=x
  rw[a4n a b]
theorem b3n(p:Pos):split 32 (posText p)=[dec p.player,joinT (p.pits.take (p.pits.length / 2))++47::joinT (p.pits.drop (p.pits.length / 2)),joinT p.stores]:=by
  rw[a8e,a1n 32 _ _ (b9q (.inl rfl)),a1n 32 _ _ (by
    intro h
    rcases List.mem_append.1 h with h|h
    · exact a2s (.inl rfl) h
    · rcases List.mem_cons.1 h with h|h
      · exact absurd h (by decide)
      · exact a2s (.inl rfl) h),a1k 32 _ (a2s (.inl rfl))]
theorem c0k{r:Rul}{p:Pos}(h:okP r p=true):readP r (posText p)=(p,true):=by
  obtain⟨g1,g2,g3,g4,g5,g6,g7⟩:=a0y h
  have hs:=b3n p
  have e0:w3 (posText p) 0=dec p.player:=by unfold w3;rw[hs];rfl
  have e1:w3 (posText p) 1=joinT (p.pits.take (p.pits.length / 2))++47::joinT (p.pits.drop (p.pits.length / 2)):=by unfold w3;rw[hs];rfl
  have e2:w3 (posText p) 2=joinT p.stores:=by unfold w3;rw[hs];rfl
  have hx:split 47 (w3 (posText p) 1)=[joinT (p.pits.take (p.pits.length / 2)),joinT (p.pits.drop (p.pits.length / 2))]:=by
    rw[e1,a1n 47 _ _ (a2s (.inr rfl)),a1k 47 _ (a2s (.inr rfl))]
  have x0:x2 (posText p) 0=joinT (p.pits.take (p.pits.length / 2)):=by unfold x2;rw[hx];rfl
  have x1:x2 (posText p) 1=joinT (p.pits.drop (p.pits.length / 2)):=by unfold x2;rw[hx];rfl
  have n0:num (dec p.player)=(p.player,true):=a4n (by omega) (by omega)
  have n1:=a7r (l:=p.pits.take (p.pits.length / 2)) (by intro h9;have h8:=congrArg List.length h9;rw[List.length_take] at h8;simp only[List.length_nil] at h8;omega) (b1s _ g5)
  have n2:=a7r (l:=p.pits.drop (p.pits.length / 2)) (by intro h9;have h8:=congrArg List.length h9;rw[List.length_drop] at h8;simp only[List.length_nil] at h8;omega) (b1r _ g5)
  have n3:=a7r (l:=p.stores) (by intro h9;rw[h9] at g4;simp at g4) g6
  have hy:readP0 (posText p)=(p,true):=by
    rw[b1d ⟨by rw[hs];rfl,by rw[hx];rfl,by rw[e0,n0],by rw[x0,n1],by rw[x1,n2],by rw[e2,n3],by rw[x0,x1,n1,n2];show(p.pits.take _).length=(p.pits.drop _).length;rw[List.length_take,List.length_drop];omega⟩]
    rw[e0,e2,x0,x1,n0,n1,n2,n3]
    simp only[List.take_append_drop]
  rw[readP_y (by rw[hy]) (by rw[hy];exact h),hy]
end Go.Proofs.YtjgohnaobbphpaaGreatDoor.M
namespace Go.Proofs.YtjgohnaobbphpaaGreatDoor
open Go.RowKit
def RX(w:World)(R:Value->Prop)(e:Ending)(w':World):Prop:=∃ v,e=.returned v/\R v/\Ext w w'
section
variable {P : Program} {n lo : Nat} {B : List Nat} {Q : Exit → Act → World → Prop} {cs : List Code} {K : Act → World → Prop} {ops : Array Oper} {rest : List Oper} {l : Fr} {os os' os1 : List Own} {u : World} {ty : TypeId} {pos : String} {af : Array Edge} {gd : Option (Nat × Bool)} {dst : Option Tmp} {v : Value} {d : Nat}
end
theorem txs_get'{xs:List (List UInt8)}{k:Nat}{y:List UInt8}(h:xs[k]?=some y):(txs_ xs)[0 + k * 1]?=some (.string (sB y)):=by rw[Nat.zero_add,Nat.mul_one];simp[txs_,h]
end Go.Proofs.YtjgohnaobbphpaaGreatDoor
namespace Go.Proofs.YtjgohnaobbphpaaGreatDoor.M
theorem named_0{l:List (List UInt8)}{t:List UInt8}(h:(namedBy l t).2=0):¬ idx l t < 0/\(namedBy l t).1=idx l t:=by
  unfold namedBy at h ⊢
  by_cases h1:idx l t < 0
  · rw[if_pos h1] at h;exact absurd (show(3:Int)=0 from h) (by decide)
  · rw[if_neg h1];exact⟨h1,rfl⟩
theorem named_3{l:List (List UInt8)}{t:List UInt8}(h:¬ (namedBy l t).2=0):idx l t < 0:=by
  unfold namedBy at h
  by_cases h1:idx l t < 0
  · exact h1
  · rw[if_neg h1] at h;exact absurd rfl h
theorem valP_c0{y t:List UInt8}(hy:y=captT)(h:(namedBy capNames t).2=0):valP y t=((namedBy capNames t).1,0):=by
  subst hy;obtain⟨a,b⟩:=named_0 h;rw[a7h,if_neg a,b]
theorem valP_c3{y t:List UInt8}(hy:y=captT)(h:¬ (namedBy capNames t).2=0):valP y t=(0,4):=by
  subst hy;rw[a7h,if_pos (named_3 h)]
theorem valP_s0{y t:List UInt8}(hy:y=slamT)(h:(namedBy slamNames t).2=0):valP y t=((namedBy slamNames t).1,0):=by
  subst hy;obtain⟨a,b⟩:=named_0 h;rw[a6x,if_neg a,b]
theorem valP_s3{y t:List UInt8}(hy:y=slamT)(h:¬ (namedBy slamNames t).2=0):valP y t=(0,4):=by
  subst hy;rw[a6x,if_pos (named_3 h)]
theorem valP_n3{y t:List UInt8}(h1:¬ y=captT)(h2:¬ y=slamT)(h3:(num t).2=false):valP y t=(0,3):=by
  unfold valP;rw[if_neg h1,if_neg h2,if_pos h3]
theorem valP_n4{y t:List UInt8}(h1:¬ y=captT)(h2:¬ y=slamT)(h3:(num t).2=true)(h4:y=pitsT/\betw (num t).1 2 8=false\/y=seedsT/\betw (num t).1 1 6=false):valP y t=(0,4):=by
  unfold valP;rw[if_neg h1,if_neg h2,if_neg (by rw[h3];decide),if_pos h4]
theorem valP_n0{y t:List UInt8}(h1:¬ y=captT)(h2:¬ y=slamT)(h3:(num t).2=true)(h4:¬ (y=pitsT/\betw (num t).1 2 8=false\/y=seedsT/\betw (num t).1 1 6=false)):valP y t=((num t).1,0):=by
  unfold valP;rw[if_neg h1,if_neg h2,if_neg (by rw[h3];decide),if_neg h4]
theorem valR_y{r:Rul}{y t:List UInt8}{n:Int}(h:valP y t=(n,0)):valR r y t=setNum r y n:=by unfold valR;rw[h,if_pos rfl]
theorem b8a{r:Rul}{y t:List UInt8}{n k:Int}(h:valP y t=(n,k))(hk:k≠0):valR r y t=r:=by unfold valR;rw[h,if_neg hk]
section
variable {x : Rdr} {a : Int} {w : List UInt8}
theorem rdW_1(h:(cutS w [61]).2.2=true/\isNum (cutS w [61]).1=false\/(cutS w [61]).2.2=false/\isFlg (cutS w [61]).1=false):rdW x a w=⟨x.rules,x.problems++[⟨1,a,w⟩],x.given⟩:=by
  unfold rdW rdU;rw[if_pos h]
theorem rdW_2(h1:¬ ((cutS w [61]).2.2=true/\isNum (cutS w [61]).1=false))(h2:¬ ((cutS w [61]).2.2=false/\isFlg (cutS w [61]).1=false))(hm:mhas x.given (cutS w [61]).1=true):rdW x a w=⟨x.rules,x.problems++[⟨2,a,w⟩],x.given⟩:=by
  unfold rdW rdU;rw[if_neg (λh=>h.elim h1 h2),if_pos hm]
theorem rdW_n{k:Int}(he:(cutS w [61]).2.2=true)(hn:isNum (cutS w [61]).1=true)(hm:mhas x.given (cutS w [61]).1=false)(hk:(valP (cutS w [61]).1 (cutS w [61]).2.1).2=k)(h0:¬ k=0):rdW x a w=⟨valR x.rules (cutS w [61]).1 (cutS w [61]).2.1,x.problems++[⟨k,a,w⟩],mput x.given (cutS w [61]).1 a⟩:=by
  subst hk;unfold rdW rdU;rw[if_neg (by rw[he,hn];simp),if_neg (by rw[hm];decide),if_pos he,if_neg h0]
theorem rdW_z(he:(cutS w [61]).2.2=true)(hn:isNum (cutS w [61]).1=true)(hm:mhas x.given (cutS w [61]).1=false)(h0:(valP (cutS w [61]).1 (cutS w [61]).2.1).2=0):rdW x a w=⟨valR x.rules (cutS w [61]).1 (cutS w [61]).2.1,x.problems,mput x.given (cutS w [61]).1 a⟩:=by
  unfold rdW rdU;rw[if_neg (by rw[he,hn];simp),if_neg (by rw[hm];decide),if_pos he,if_pos h0]
theorem rdW_f(he:(cutS w [61]).2.2=false)(hf:isFlg (cutS w [61]).1=true)(hm:mhas x.given (cutS w [61]).1=false):rdW x a w=⟨setFlg x.rules (cutS w [61]).1,x.problems,mput x.given (cutS w [61]).1 a⟩:=by
  unfold rdW rdU;rw[if_neg (by rw[he,hf];simp),if_neg (by rw[hm];decide),if_neg (by rw[he];decide)]
end
theorem misN_t{g:List (List UInt8×Int)}{m:Int}{k:Nat}{y:List UInt8}{ps qs:List Prb}(h:qs=ps++misN g m k)(hY:pNames[k]?=some y)(hb:mhas g y=true):qs=ps++misN g m (k + 1):=by
  rw[misN,a5g hY,if_pos hb,List.append_nil];exact h
theorem misN_f{g:List (List UInt8×Int)}{m:Int}{k:Nat}{y:List UInt8}{ps qs:List Prb}(h:qs=ps++misN g m k)(hY:pNames[k]?=some y)(hb:mhas g y=false):qs++[⟨5,m,y⟩]=ps++misN g m (k + 1):=by
  rw[misN,a5g hY,if_neg (by rw[hb];decide),h,List.append_assoc]
theorem mis_t{g:List (List UInt8×Int)}{m:Int}{k:Nat}{ps qs:List Prb}(h:qs=ps++misN g m k)(hk:k=2)(h1:mhas g agaiT=true)(h2:mhas g storT=false):ps++mis g m=qs++[⟨6,mval g agaiT,agaiT⟩]:=by
  subst hk;unfold mis misE;rw[if_pos ⟨h1,h2⟩,h,List.append_assoc]
theorem mis_f{g:List (List UInt8×Int)}{m:Int}{k:Nat}{ps qs:List Prb}(h:qs=ps++misN g m k)(hk:k=2)(h1:¬ (mhas g agaiT=true/\mhas g storT=false)):ps++mis g m=qs:=by
  subst hk;unfold mis misE;rw[if_neg h1,List.append_nil,h]
theorem mis_len(g:List (List UInt8×Int))(m:Int):(mis g m).length<=3:=by
  have:=a9h g m 2
  unfold mis misE
  rw[List.length_append]
  split <;> simp only[List.length_cons,List.length_nil] <;> omega
theorem PtI.word'{s y:List UInt8}{j:Nat}{a:Int}{k:Nat}(h:PtI s j a k)(hy:(split 32 s)[j]?=some y)(hne:y≠[]):PtI s (j + 1) (a + ((y.length:Int) + 1)) (k + 1)/\(wds s)[k]?=some y/\nth (pls s) k=a:=by
  rw[<- Int.add_assoc];exact h.word hy hne
theorem PtI.blank'{s y:List UInt8}{j:Nat}{a:Int}{k:Nat}(h:PtI s j a k)(hy:(split 32 s)[j]?=some y)(he:y=[]):PtI s (j + 1) (a + ((y.length:Int) + 1)) k:=by
  subst he;rw[<- Int.add_assoc];exact h.blank hy
theorem rel_done{s:List UInt8}{x:Rdr}{j k:Nat}{a:Int}(h:RelC x (chkN s k))(hP:PtI s j a k)(hj:(split 32 s).length<=j)(hk:k<=(wds s).length):RelC x (chkA s):=by
  have:=hP.done hj hk;subst this;exact h
theorem chkT_5{s:List UInt8}(h:200 < s.length):chkT s=(Rul.zero,[],5):=by unfold chkT;rw[if_pos h]
theorem chkT_p{s:List UInt8}{x:Rdr}(h:¬ 200 < s.length)(hR:RelC x (chkA s))(hp:0 < (x.problems++mis x.given (s.length:Int)).length):chkT s=(Rul.zero,x.problems++mis x.given (s.length:Int),0):=by
  rw[hR.missing] at hp ⊢
  unfold chkT;rw[if_neg h,if_neg (by intro e;rw[e] at hp;simp at hp)]
theorem chkT_n{s:List UInt8}{x:Rdr}(h:¬ 200 < s.length)(hR:RelC x (chkA s))(hp:¬ 0 < (x.problems++mis x.given (s.length:Int)).length):chkT s=(x.rules,x.problems++mis x.given (s.length:Int),0):=by
  rw[hR.missing] at hp ⊢
  have e:chkO s=[]:=List.length_eq_zero_iff.1 (by omega)
  unfold chkT;rw[if_neg h,if_pos e,e,hR.r];rfl
theorem chkT_O{s:List UInt8}(h:¬ 200 < s.length)(hp:0 < (chkO s).length):chkT s=(Rul.zero,chkO s,0):=by
  unfold chkT;rw[if_neg h,if_neg (by intro e;rw[e] at hp;simp at hp)]
theorem chkT_R{s:List UInt8}(h:¬ 200 < s.length)(hp:¬ 0 < (chkO s).length):chkT s=(chkR s,[],0):=by
  unfold chkT;rw[if_neg h,if_pos (List.length_eq_zero_iff.1 (by omega))]
theorem chkT_len(s:List UInt8):(chkT s).2.1.length<=s.length + 4:=by
  have:=b8n s
  unfold chkT
  split
  · show([]:List Prb).length<=_;simp
  · split
    · show([]:List Prb).length<=_;simp
    · exact this
theorem RelC.plen{x:Rdr}{s:List UInt8}{k:Nat}(h:RelC x (chkN s k)):x.problems.length<=k:=by rw[h.p];exact(a5n s k).2.2
theorem b1c:∀ {ws:List (List UInt8)},ws≠[]->(∀ w∈ws,(32:UInt8) ∉ w)->split 32 (joinW 32 ws)=ws
  | [],h,_=>absurd rfl h
  | [w],_,h=>a1k 32 w (h w (by simp))
  | w::v::ws,_,h=>by
    show split 32 (w++32::joinW 32 (v::ws))=_
    rw[a1n 32 _ _ (h w (by simp)),b1c (by simp) (λx hx=>h x (by simp[hx]))]
def pW(a:Int):List UInt8:=[112,105,116,115,61]++dec a
def sW(a:Int):List UInt8:=[115,101,101,100,115,61]++dec a
def cW(a:Int):List UInt8:=[99,97,112,116,117,114,101,61]++capName a
def lW(a:Int):List UInt8:=[115,108,97,109,61]++slamName a
structure Wok (w:List UInt8) (i:Nat) (n:Int):Prop where
  v:wrd w=((i:Int),n,0)
  b:(32:UInt8) ∉ w
  e:w≠[]
  l:w.length<=17
theorem pW_ok{a:Int}(h0:2<=a)(h1:a<=8):Wok (pW a) 0 a:=by
  have:a=2\/a=3\/a=4\/a=5\/a=6\/a=7\/a=8:=by omega
  rcases this with rfl|rfl|rfl|rfl|rfl|rfl|rfl <;> exact⟨by decide +kernel,by decide +kernel,by decide +kernel,by decide +kernel⟩
theorem sW_ok{a:Int}(h0:1<=a)(h1:a<=6):Wok (sW a) 1 a:=by
  have:a=1\/a=2\/a=3\/a=4\/a=5\/a=6:=by omega
  rcases this with rfl|rfl|rfl|rfl|rfl|rfl <;> exact⟨by decide +kernel,by decide +kernel,by decide +kernel,by decide +kernel⟩
theorem cW_ok{a:Int}(h0:0<=a)(h1:a<=3):Wok (cW a) 7 a:=by
  have:a=0\/a=1\/a=2\/a=3:=by omega
  rcases this with rfl|rfl|rfl|rfl <;> exact⟨by decide +kernel,by decide +kernel,by decide +kernel,by decide +kernel⟩
theorem lW_ok{a:Int}(h0:0<=a)(h1:a<=2):Wok (lW a) 8 a:=by
  have:a=0\/a=1\/a=2:=by omega
  rcases this with rfl|rfl|rfl <;> exact⟨by decide +kernel,by decide +kernel,by decide +kernel,by decide +kernel⟩
theorem fW_ok{y:List UInt8}(h:y∈fNames):Wok y (flagIx y) 1:=by
  simp only[fNames,List.mem_cons,List.not_mem_nil,or_false] at h
  rcases h with rfl|rfl|rfl|rfl|rfl <;> exact⟨by decide +kernel,by decide +kernel,by decide +kernel,by decide +kernel⟩
def runL:List (Nat×Int)->List Int->List Bool->Option (List Int×List Bool)
  | [],v,s=>some (v,s)
  | p::r,v,s=>if blt s p.1=true then none else runL r (setI v (p.1:Int) p.2) (s.set p.1 true)
theorem run_end {s : List UInt8} {L : List (Nat × Int)} (hL : (wds s).map wrd = L.map fun p => ((p.1 : Int), p.2, 0)) {v' : List Int} {b' : List Bool} : ∀ (m k : Nat) (v : List Int) (b : List Bool) (ag : Int), m = (wds s).length - k → k ≤ (wds s).length → chkN s k = ⟨v, b, ag, []⟩ → runL (L.drop k) v b = some (v', b') →
    ∃ ag',chkA s=⟨v',b',ag',[]⟩
  | 0,k,v,b,ag,hm,hk,hC,hR=>by
    have hk2:k=(wds s).length:=by omega
    have hl:L.length=(wds s).length:=by have:=congrArg List.length hL;simpa using this.symm
    rw[List.drop_eq_nil_of_le (by omega),runL] at hR
    injection hR with hR
    injection hR with h1 h2
    subst h1;subst h2
    exact⟨ag,by rw[chkA,<- hk2,hC]⟩
  | m + 1,k,v,b,ag,hm,hk,hC,hR=>by
    have hk2:k < (wds s).length:=by omega
    have hl:L.length=(wds s).length:=by have:=congrArg List.length hL;simpa using this.symm
    have hkL:k < L.length:=by omega
    have hw:wrd ((wds s)[k])=((L[k].1:Int),L[k].2,0):=by
      have h9:=congrArg (λl:List (Int×Int×Int)=>l[k]?) hL
      simp only[List.getElem?_map,List.getElem?_eq_getElem hk2,List.getElem?_eq_getElem hkL,Option.map_some] at h9
      exact Option.some.inj h9
    rw[List.drop_eq_getElem_cons hkL,runL] at hR
    split at hR
    · cases hR
    · rename_i hb
      have h1:=chk_z hC (List.getElem?_eq_getElem hk2) (by rw[hw];simpa using hb) (by rw[hw])
      rw[hw] at h1
      dsimp only at h1
      rw[Int.toNat_natCast] at h1
      exact run_end hL m (k + 1) _ _ _ (by omega) hk2 h1 hR
theorem chk_words {s : List UInt8} {L : List (Nat × Int)} {v : List Int} {b : List Bool} (hL : (wds s).map wrd = L.map fun p => ((p.1 : Int), p.2, 0)) (hR : runL L (List.replicate 9 0) (List.replicate 9 false) = some (v, b)) (h0 : blt b 0 = true) (h1 : blt b 1 = true) (h6 : ¬ (nth v 6 = 1 ∧ nth v 2 = 0)) :
    chkO s=[]/\chkR s=rulV v:=by
  obtain⟨ag,hA⟩:=run_end hL _ 0 _ _ 0 rfl (Nat.zero_le _) rfl hR
  refine⟨?_,by rw[chkR,hA]⟩
  unfold chkO
  rw[hA,if_neg h6,List.append_nil,chkM,chkM,chkM,hA]
  dsimp only
  rw[if_pos h0,if_pos h1];rfl
def fW(r:Rul):List (List UInt8):=fNames.filter λy=>flagB r y
def rW(r:Rul):List (List UInt8):=[pW r.pits,sW r.seeds,cW r.capture,lW r.slam]++fW r
def fL(r:Rul):List (Nat×Int):=(fW r).map λy=>(flagIx y,1)
def rL(r:Rul):List (Nat×Int):=[(0,r.pits),(1,r.seeds),(7,r.capture),(8,r.slam)]++fL r
theorem a9x(r:Rul):rulesT r=joinW 32 (rW r):=by
  obtain⟨a,b,st,sk,re,fe,ag,c,d⟩:=r
  cases st <;> cases sk <;> cases re <;> cases fe <;> cases ag <;>
    simp[rulesT,rulesN,rW,fW,fNames,flagB,joinW,pW,sW,cW,lW]
theorem rW_ok{r:Rul}(h:okR r=true):∀ w∈rW r,∃ i n,Wok w i n:=by
  obtain⟨a1,a2,a3,a4,a5,a6,a7,a8⟩:=b6d h
  intro w hw
  unfold rW fW at hw
  simp only[List.cons_append,List.nil_append,List.mem_cons,List.mem_filter] at hw
  rcases hw with rfl|rfl|rfl|rfl|hw
  · exact⟨_,_,pW_ok a1 a2⟩
  · exact⟨_,_,sW_ok a3 a4⟩
  · exact⟨_,_,cW_ok a5 a6⟩
  · exact⟨_,_,lW_ok a7 a8⟩
  · exact⟨_,_,fW_ok hw.1⟩
theorem rW_map{r:Rul}(h:okR r=true):(rW r).map wrd=(rL r).map λp=>((p.1:Int),p.2,0):=by
  obtain⟨a1,a2,a3,a4,a5,a6,a7,a8⟩:=b6d h
  unfold rW rL fL
  rw[List.map_append,List.map_append,List.map_map]
  congr 1
  · simp only[List.map_cons,List.map_nil,(pW_ok a1 a2).v,(sW_ok a3 a4).v,(cW_ok a5 a6).v,(lW_ok a7 a8).v]
  · apply List.map_congr_left
    intro y hy
    exact(fW_ok (List.mem_filter.1 hy).1).v
theorem wds_of{ws:List (List UInt8)}(h:∀ w∈ws,∃ i n,Wok w i n)(hne:ws≠[]):wds (joinW 32 ws)=ws:=by
  unfold wds
  rw[b1c hne (λw hw=>by obtain⟨_,_,k⟩:=h w hw;exact k.b)]
  apply List.filter_eq_self.2
  intro w hw
  obtain⟨_,_,k⟩:=h w hw
  simpa using k.e
theorem wds_rules{r:Rul}(h:okR r=true):wds (rulesT r)=rW r:=by
  rw[a9x];exact wds_of (rW_ok h) (by simp[rW])
theorem ok_stag{r:Rul}(h:okR r=true):(r.stores || !r.again)=true:=by
  simp only[okR,Bool.and_eq_true] at h;exact h.2
theorem run_rules(r:Rul)(h:(r.stores || !r.again)=true):∃ v b,runL (rL r) (List.replicate 9 0) (List.replicate 9 false)=some (v,b)/\blt b 0=true/\blt b 1=true/\¬ (nth v 6=1/\nth v 2=0)/\rulV v=r:=by
  obtain⟨a,b,st,sk,re,fe,ag,c,d⟩:=r
  cases st <;> cases sk <;> cases re <;> cases fe <;> cases ag <;> first|(exact absurd (show false=true from h) (by decide))|exact⟨_,_,rfl,rfl,rfl,λh=>absurd (show(0:Int)=1 from h.1) (by decide),rfl⟩|exact⟨_,_,rfl,rfl,rfl,λh=>absurd (show(1:Int)=0 from h.2) (by decide),rfl⟩
theorem chk_rules{r:Rul}(h:okR r=true):chkO (rulesT r)=[]/\chkR (rulesT r)=r:=by
  obtain⟨v,b,h1,h2,h3,h4,h5⟩:=run_rules r (ok_stag h)
  have:=chk_words (by rw[wds_rules h];exact rW_map h) h1 h2 h3 h4
  rw[h5] at this;exact this
theorem c0w{r:Rul}(h:okR r=true):chkT (rulesT r)=(r,[],0):=by
  have hl:=a4h r
  obtain⟨a1,a2⟩:=chk_rules h
  unfold chkT
  rw[if_neg (by omega),if_pos a1,a2]
theorem rel_at(s:List UInt8):∀ k:Nat,∃ x,RelC x (chkN s k)
  | 0=>⟨_,RelC.zero⟩
  | k + 1=>by obtain⟨x,h⟩:=rel_at s k;exact⟨_,h.step (nth (pls s) k) (wdn (wds s) k)⟩
theorem betw_nf{n a b:Int}(h:¬ betw n a b=false):a<=n/\n<=b:=a0r.1 (by cases hb:betw n a b;exact absurd hb h;rfl)
theorem valP_rng{y t:List UInt8}{n:Int}(h:valP y t=(n,0)):(y=pitsT->2<=n/\n<=8)/\(y=seedsT->1<=n/\n<=6)/\(y=captT->0<=n/\n<=3)/\(y=slamT->0<=n/\n<=2):=by
  refine⟨λe=>?_,λe=>?_,λe=>?_,λe=>?_⟩ <;> subst e
  · rw[b3y] at h
    split at h
    · injection h with _ h;exact absurd h (by decide)
    · split at h
      · injection h with _ h;exact absurd h (by decide)
      · rename_i hb;injection h with h _;rw[<- h];exact betw_nf hb
  · rw[b1p] at h
    split at h
    · injection h with _ h;exact absurd h (by decide)
    · split at h
      · injection h with _ h;exact absurd h (by decide)
      · rename_i hb;injection h with h _;rw[<- h];exact betw_nf hb
  · rw[a7h] at h
    split at h
    · injection h with _ h;exact absurd h (by decide)
    · injection h with h _
      have:=a5v capNames t
      rw[show(capNames.length:Int)=4 from rfl] at this
      omega
  · rw[a6x] at h
    split at h
    · injection h with _ h;exact absurd h (by decide)
    · injection h with h _
      have:=a5v slamNames t
      rw[show(slamNames.length:Int)=3 from rfl] at this
      omega
theorem wrd_rng{w:List UInt8}{i n:Int}(h:wrd w=(i,n,0)):(i=0->2<=n/\n<=8)/\(i=1->1<=n/\n<=6)/\(i=7->0<=n/\n<=3)/\(i=8->0<=n/\n<=2):=by
  rw[wrd_P] at h
  generalize (cutS w [61]).1=y at h
  generalize (cutS w [61]).2.1=t at h
  generalize (cutS w [61]).2.2=e at h
  cases hn:isNum y with
  | true =>
    obtain⟨q1,q2,q3,q4⟩:=b9n (t:=t) hn
    cases e with
    | false=>rw[q3] at h;injection h with _ h;injection h with _ h;exact absurd h (by decide)
    | true =>
      rw[q1] at h
      injection h with h1 h
      injection h with h2 h3
      have hr:=valP_rng (y:=y) (t:=t) (n:=n) (by rw[<- h2,<- h3])
      rcases a1x hn with rfl|rfl|rfl|rfl
      · have:i=0:=h1.symm
        exact⟨λ_=>hr.1 rfl,λh=>by omega,λh=>by omega,λh=>by omega⟩
      · have:i=1:=h1.symm
        exact⟨λh=>by omega,λ_=>hr.2.1 rfl,λh=>by omega,λh=>by omega⟩
      · have:i=7:=h1.symm
        exact⟨λh=>by omega,λh=>by omega,λ_=>hr.2.2.1 rfl,λh=>by omega⟩
      · have:i=8:=h1.symm
        exact⟨λh=>by omega,λh=>by omega,λh=>by omega,λ_=>hr.2.2.2 rfl⟩
  | false =>
    cases hf:isFlg y with
    | false=>rw[wrdP_no hn hf] at h;injection h with _ h;injection h with _ h;exact absurd h (by decide)
    | true =>
      obtain⟨q1,q2,q3,q4⟩:=b9l (t:=t) hf
      cases e with
      | true=>rw[q3] at h;injection h with _ h;injection h with _ h;exact absurd h (by decide)
      | false =>
        rw[q1] at h
        injection h with h1 _
        have:2<=flagIx y/\flagIx y<=6:=by rcases a3j hf with rfl|rfl|rfl|rfl|rfl <;> decide
        exact⟨λh=>by omega,λh=>by omega,λh=>by omega,λh=>by omega⟩
def RngV(v:List Int)(b:List Bool):Prop:=(blt b 0=true->2<=nth v 0/\nth v 0<=8)/\(blt b 1=true->1<=nth v 1/\nth v 1<=6)/\(0<=nth v 7/\nth v 7<=3)/\(0<=nth v 8/\nth v 8<=2)
theorem b9d(s:List UInt8):∀ k:Nat,(chkN s k).out=[]->RngV (chkN s k).v (chkN s k).seen
  | 0,_=>(⟨λh=>absurd (show false=true from h) (by decide),λh=>absurd (show false=true from h) (by decide),by decide,by decide⟩:RngV Chk.zero.v Chk.zero.seen)
  | k + 1,h=>by
    obtain⟨hl,hs,_⟩:=a5n s k
    have hb:=wrd_bd (wdn (wds s) k)
    have ih:=b9d s k
    rw[chkN] at h ⊢
    generalize chkN s k=c at h hl hs ih ⊢
    have hr:=@wrd_rng (wdn (wds s) k)
    generalize wdn (wds s) k=w at h hb hr ⊢
    unfold chkS at h ⊢
    split
    · rename_i h1;rw[if_pos h1] at h;simp at h
    · rename_i h1
      rw[if_neg h1] at h
      dsimp only at h ⊢
      have h0:chkK c w=0:=by
        by_cases h0:chkK c w=0
        · exact h0
        · rw[if_neg h0] at h;simp at h
      rw[if_pos h0] at h
      have hk:(wrd w).2.2=0:=by
        unfold chkK at h0
        split at h0
        · exact absurd h0 (by decide)
        · exact h0
      obtain⟨r0,r1,r7,r8⟩:=hr (i:=(wrd w).1) (n:=(wrd w).2.1) (by rw[<- hk])
      obtain⟨i0,i1,i7,i8⟩:=ih h
      have hi:∀ j:Nat,j < 9->nth (setI c.v (wrd w).1 (wrd w).2.1) j=if (wrd w).1=(j:Int) then(wrd w).2.1 else nth c.v j:=λj hj=>by
        by_cases e:(wrd w).1=(j:Int)
        · rw[if_pos e,e]
          have:=a6a (l:=c.v) (k:=(j:Int)) (n:=(wrd w).2.1) (by rw[Int.toNat_natCast];omega)
          rwa [Int.toNat_natCast] at this
        · rw[if_neg e,a4k (λe2=>e e2.symm) hb.1]
      have hbs:∀ j:Nat,j < 9->blt (c.seen.set (wrd w).1.toNat true) j=true->(wrd w).1=(j:Int)\/blt c.seen j=true:=λj hj h9=>by
        rw[a3y (by omega)] at h9
        simp only[Bool.or_eq_true,decide_eq_true_eq] at h9
        rcases h9 with h9|h9
        · left;omega
        · exact .inr h9
      refine⟨λh9=>?_,λh9=>?_, ?_, ?_⟩
      · rw[hi 0 (by decide)]
        by_cases e:(wrd w).1=((0:Nat):Int)
        · rw[if_pos e];exact r0 e
        · rw[if_neg e];exact i0 ((hbs 0 (by decide) h9).resolve_left e)
      · rw[hi 1 (by decide)]
        by_cases e:(wrd w).1=((1:Nat):Int)
        · rw[if_pos e];exact r1 e
        · rw[if_neg e];exact i1 ((hbs 1 (by decide) h9).resolve_left e)
      · rw[hi 7 (by decide)]
        by_cases e:(wrd w).1=((7:Nat):Int)
        · rw[if_pos e];exact r7 e
        · rw[if_neg e];exact i7
      · rw[hi 8 (by decide)]
        by_cases e:(wrd w).1=((8:Nat):Int)
        · rw[if_pos e];exact r8 e
        · rw[if_neg e];exact i8
theorem b6i{s:List UInt8}(h:chkO s=[]):okR (chkR s)=true:=by
  obtain⟨x,hx⟩:=rel_at s (wds s).length
  have hr:=b9d s (wds s).length
  change RelC x (chkA s) at hx
  change (chkA s).out=[]->RngV (chkA s).v (chkA s).seen at hr
  unfold chkO at h
  obtain⟨h1,h2⟩:=List.append_eq_nil_iff.1 h
  rw[chkM,chkM,chkM] at h1
  obtain⟨h1,hb1⟩:=List.append_eq_nil_iff.1 h1
  obtain⟨h1,hb0⟩:=List.append_eq_nil_iff.1 h1
  have b0:blt (chkA s).seen 0=true:=by
    by_cases e:blt (chkA s).seen 0=true
    · exact e
    · rw[if_neg e] at hb0;simp at hb0
  have b1:blt (chkA s).seen 1=true:=by
    by_cases e:blt (chkA s).seen 1=true
    · exact e
    · rw[if_neg e] at hb1;simp at hb1
  obtain⟨r0,r1,r7,r8⟩:=hr h1
  have h6:¬ (nth (chkA s).v 6=1/\nth (chkA s).v 2=0):=λe=>by rw[if_pos e] at h2;simp at h2
  refine a2g (r0 b0) (r1 b1) r7 r8 ?_
  by_cases e6:nth (chkA s).v 6=1
  · have e2 : nth (chkA s).v 2 = 1 := by
      cases hb:blt (chkA s).seen 2 with
      | true=>exact hx.f2 hb
      | false=>exact absurd ⟨e6,hx.z 2 hb⟩ h6
    rw[decide_eq_true e2];rfl
  · rw[decide_eq_false e6];simp
theorem plc : ∀ (ws : List (List UInt8)) (a : Nat) (t : List UInt8), t.drop a = joinW 32 ws → a ≤ t.length → ∀ (k : Nat) (w : List UInt8) (p : Int), (ws.filter fun w => decide (w ≠ []))[k]? = some w → (plsW (a : Int) ws)[k]? = some p →
    (t.drop p.toNat).take w.length=w/\0<=p/\p + (w.length:Int)<=(t.length:Int)
  | [],_,_,_,_,k,w,p,h,_=>by simp at h
  | [u],a,t,ht,ha,k,w,p,h,hp=>by
    have ht:t.drop a=u:=ht
    have hl:u.length=t.length - a:=by rw[<- ht,List.length_drop]
    by_cases hu:u=[]
    · subst hu;simp at h
    · rw[List.filter_cons_of_pos (by simpa using hu)] at h
      rw[plsW,if_neg hu] at hp
      cases k with
      | zero =>
        simp at h hp
        subst h;subst hp
        exact⟨by rw[Int.toNat_natCast,ht,List.take_length],by omega,by omega⟩
      | succ k=>simp at h
  | u::v::ws,a,t,ht,ha,k,w,p,h,hp=>by
    have ht:t.drop a=u++32::joinW 32 (v::ws):=ht
    have hl:=congrArg List.length ht
    rw[List.length_drop,List.length_append,List.length_cons] at hl
    have hd:t.drop (a + u.length + 1)=joinW 32 (v::ws):=by
      rw[Nat.add_assoc,<- List.drop_drop,ht,show u.length + 1=u.length + 1 from rfl,<- List.drop_drop,List.drop_left];rfl
    by_cases hu:u=[]
    · subst hu
      rw[List.filter_cons_of_neg (by simp)] at h
      rw[plsW,if_pos rfl] at hp
      exact plc (v::ws) (a + 1) t hd (by simp at hl;omega) k w p h hp
    · rw[List.filter_cons_of_pos (by simpa using hu)] at h
      rw[plsW,if_neg hu] at hp
      cases k with
      | zero =>
        simp at h hp
        subst h;subst hp
        exact⟨by rw[Int.toNat_natCast,ht,List.take_left],by omega,by omega⟩
      | succ k =>
        rw[List.getElem?_cons_succ] at h hp
        exact plc (v::ws) (a + u.length + 1) t hd (by omega) k w p h (by rw[show((a + u.length + 1:Nat):Int)=(a:Int) + (u.length:Int) + 1 by omega];exact hp)
theorem place{s w:List UInt8}{k:Nat}(h:(wds s)[k]?=some w):(s.drop (nth (pls s) k).toNat).take w.length=w/\0<=nth (pls s) k/\nth (pls s) k + (w.length:Int)<=(s.length:Int):=by
  have hk:k < (pls s).length:=by rw[b2g];exact(List.getElem?_eq_some_iff.1 h).1
  exact plc (split 32 s) 0 s (by rw[a1e];rfl) (Nat.zero_le _) k w _ h (by rw[b5s hk];exact List.getElem?_eq_getElem hk)
def readR(s:List UInt8):Rul×Bool:=if (chkT s).2.2=0/\(chkT s).2.1=[]/\rulesTR (chkT s).1=s then((chkT s).1,true) else(Rul.zero,false)
theorem b7e{s:List UInt8}(h1:(chkT s).2.2=0)(h2:(chkT s).2.1=[])(h3:rulesTR (chkT s).1=s):readR s=((chkT s).1,true):=if_pos ⟨h1,h2,h3⟩
theorem b3u{s:List UInt8}(h:¬ ((chkT s).2.2=0/\(chkT s).2.1=[]/\rulesTR (chkT s).1=s)):readR s=(Rul.zero,false):=if_neg h
theorem readR_5{s:List UInt8}(h:200 < s.length):readR s=(Rul.zero,false):=b3u (by rw[chkT_5 h];rintro⟨h,_⟩;exact absurd (show(5:Int)=0 from h) (by decide))
theorem readR_p{s:List UInt8}(h:¬ 200 < s.length)(h2:chkO s≠[]):readR s=(Rul.zero,false):=b3u (by rw[chkT_O h (by cases e:chkO s;exact absurd e h2;simp)];rintro⟨_,h,_⟩;exact h2 h)
theorem readR_t{s:List UInt8}(h:¬ 200 < s.length)(h2:chkO s=[])(h3:rulesT (chkR s)=s):readR s=(chkR s,true):=by
  have e:=chkT_R h (by rw[h2];simp)
  have:=b7e (s:=s) (by rw[e]) (by rw[e]) (by rw[e];dsimp only;rw[a2c (b6i h2)];exact h3)
  rw[this,e]
theorem readR_f{s:List UInt8}(h:¬ 200 < s.length)(h2:chkO s=[])(h3:¬ rulesT (chkR s)=s):readR s=(Rul.zero,false):=by
  have e:=chkT_R h (by rw[h2];simp)
  exact b3u (by rw[e];dsimp only;rw[a2c (b6i h2)];rintro⟨_,_,h⟩;exact h3 h)
theorem c0n(r:Rul):(readR (rulesTR r)).2=!decide (rulesTR r=[])/\((readR (rulesTR r)).2=true->(readR (rulesTR r)).1=r/\okR r=true):=by
  cases h:okR r with
  | false =>
    rw[b1h h]
    have:readR []=(Rul.zero,false):=readR_p (by decide) (by decide +kernel)
    rw[this];exact⟨rfl,λh=>absurd h (by decide)⟩
  | true =>
    rw[a2c h]
    have e:=c0w h
    have:=b7e (s:=rulesT r) (by rw[e]) (by rw[e]) (by rw[e];exact a2c h)
    rw[this,e]
    refine⟨?_,λ_=>⟨rfl,rfl⟩⟩
    have hne:¬ rulesT r=[]:=λe2=>by
      have:=congrArg List.length e2
      rw[a9x,rW,List.cons_append,a8d _ _ (by simp)] at this
      simp[pW] at this
    simp[hne]
theorem readR_one{s:List UInt8}(h:(readR s).2=true):(chkT s).2.2=0/\(chkT s).2.1=[]/\(chkT s).1=(readR s).1:=by
  unfold readR at h ⊢
  split
  · rename_i h1;exact⟨h1.1,h1.2.1,rfl⟩
  · rename_i h1;rw[if_neg h1] at h;exact absurd h (by decide)
def whole(s:List UInt8):Bool:=decide ((split 10 s).getLast?=some [])
def recL(s:List UInt8):List (List UInt8):=if whole s=true then(split 10 s).dropLast else split 10 s
theorem whole_nil:whole []=true:=by decide
theorem b9y:recL []=[]:=by decide
theorem b4n{s:List UInt8}(h:(cutS s [10]).2.2=true):recL s=(cutS s [10]).1::recL (cutS s [10]).2.1/\whole s=whole (cutS s [10]).2.1/\(cutS s [10]).2.1.length < s.length:=by
  rcases a3e 10 s with⟨_,h2,h3⟩|⟨h2,_⟩
  · have hne:=a4q 10 (cutS s [10]).2.1
    have hw:whole s=whole (cutS s [10]).2.1:=by
      unfold whole;rw[h2,List.getLast?_cons]
      cases e:split 10 (cutS s [10]).2.1 with
      | nil=>exact absurd e hne
      | cons a l=>rw[List.getLast?_eq_some_getLast (by simp:a::l≠[])];simp
    refine⟨?_,hw,h3⟩
    unfold recL
    rw[hw,h2]
    split
    · rw[List.dropLast_cons_of_ne_nil hne]
    · rfl
  · rw[h] at h2;exact absurd h2 (by decide)
theorem recL_last{s:List UInt8}(h:(cutS s [10]).2.2=false)(hne:s≠[]):recL s=[(cutS s [10]).1]/\whole s=false:=by
  rcases a3e 10 s with⟨h2,_⟩|⟨_,h2⟩
  · rw[h] at h2;exact absurd h2 (by decide)
  · have hc : (cutS s [10]).1 = s := by
      have:=a1e (b:=10) (s:=s)
      rw[h2] at this;simpa[joinW] using this
    have hw:whole s=false:=by
      unfold whole;rw[h2,hc];simp[hne]
    refine⟨?_,hw⟩
    unfold recL;rw[hw,if_neg (by decide),h2]
structure LinI (s cur:List UInt8) (out:List (List UInt8)) (e:Bool):Prop where
  h:out++recL cur=recL s
  w:(e && whole cur)=whole s
theorem LinI.zero(s:List UInt8):LinI s s [] true:=⟨rfl,by simp⟩
theorem LinI.more{s cur:List UInt8}{out:List (List UInt8)}{e:Bool}(h:LinI s cur out e)(hc:(cutS cur [10]).2.2=true):LinI s (cutS cur [10]).2.1 (out++[(cutS cur [10]).1]) e:=by
  obtain⟨a,b,_⟩:=b4n hc
  exact⟨by rw[<- h.h,a];simp,by rw[<- h.w,b]⟩
theorem LinI.last{s cur:List UInt8}{out:List (List UInt8)}{e:Bool}(h:LinI s cur out e)(hc:(cutS cur [10]).2.2=false)(hne:cur≠[]):LinI s [] (out++[(cutS cur [10]).1]) false:=by
  obtain⟨a,b⟩:=recL_last hc hne
  exact⟨by rw[<- h.h,a,b9y];simp,by rw[<- h.w,b];simp⟩
theorem LinI.done{s:List UInt8}{out:List (List UInt8)}{e:Bool}(h:LinI s [] out e):out=recL s/\e=whole s:=⟨by rw[<- h.h,b9y];simp,by rw[<- h.w,whole_nil];simp⟩
theorem b8h(s:List UInt8):(recL s).length<=s.length + 1:=by
  have:=a1p 10 s
  unfold recL;split
  · rw[List.length_dropLast];omega
  · exact this
theorem LinI.len{s cur:List UInt8}{out:List (List UInt8)}{e:Bool}(h:LinI s cur out e):out.length<=s.length + 1:=by
  have:=b8h s;rw[<- h.h,List.length_append] at this;omega
theorem LinI.mem{s cur:List UInt8}{out:List (List UInt8)}{e:Bool}(h:LinI s cur out e):∀ w∈out,w.length<=s.length:=λw hw=>by
  have h1:w∈recL s:=by rw[<- h.h];simp[hw]
  have h2:w∈split 10 s:=by
    unfold recL at h1;split at h1
    · exact List.dropLast_subset _ h1
    · exact h1
  exact a1f 10 s w h2
def numI(t:List UInt8):(Int×Int×Int)×Bool :=
  (((num (cutS t [46,32]).1).1,(num (cutS (cutS t [46,32]).2.1 [43]).1).1,(num (cutS (cutS t [46,32]).2.1 [43]).2.1).1),
   (cutS t [46,32]).2.2 && (cutS (cutS t [46,32]).2.1 [43]).2.2 && (num (cutS t [46,32]).1).2 && (num (cutS (cutS t [46,32]).2.1 [43]).1).2 && (num (cutS (cutS t [46,32]).2.1 [43]).2.1).2)
def w0(t:List UInt8):List UInt8:=(split 32 t).getD 0 []
def w1(t:List UInt8):List UInt8:=(split 32 t).getD 1 []
def v0(t:List UInt8):List UInt8:=(split 43 (w1 t)).getD 0 []
def v1(t:List UInt8):List UInt8:=(split 43 (w1 t)).getD 1 []
def fmS(t:List UInt8):Prop:=(split 32 t).length=2/\2<=(w0 t).length/\(w0 t)[(w0 t).length - 1]?=some 46/\(split 43 (w1 t)).length=2
instance (t:List UInt8):Decidable (fmS t):=by unfold fmS;infer_instance
def numR(t:List UInt8):(Int×Int×Int)×Bool :=
  if fmS t then(((num ((w0 t).take ((w0 t).length - 1))).1,(num (v0 t)).1,(num (v1 t)).1),(num ((w0 t).take ((w0 t).length - 1))).2 && (num (v0 t)).2 && (num (v1 t)).2) else((0,0,0),false)
theorem a3z{n:Int}{c:UInt8}(hc:c=32\/c=43\/c=46\/c=10):c ∉ dec n:=λh=>by
  have:=dec_B h
  rcases hc with rfl|rfl|rfl|rfl <;> (rcases this with h|⟨h1,h2⟩ <;> first|exact absurd h (by decide)|exact absurd h1 (by decide)|exact absurd h2 (by decide))
theorem a6i{s:List UInt8}{c:UInt8}(h:(num s).2=true)(hc:c=32\/c=43\/c=46\/c=10):c ∉ s:=by
  rw[<- b6j h];exact a3z hc
theorem num_ne{s:List UInt8}(h:(num s).2=true):s≠[]:=by rintro rfl;exact absurd h (by decide)
theorem b8b{a r:List UInt8}(h:(46:UInt8) ∉ a):cutS (a++46::32::r) [46,32]=(a,r,true):=by
  rw[a6v (k:=a.length) (by simp) (by simp) (λi hi he=>?_)]
  · simp
  · rw[List.drop_append_of_le_length (by omega)] at he
    have hm:(a.drop i++46::32::r)[0]?=some 46:=by
      have:=congrArg (·[0]?) he
      simpa using this
    rw[List.getElem?_append_left (by rw[List.length_drop];omega),List.getElem?_drop] at hm
    exact h (List.mem_of_getElem? hm)
theorem b4j{a r:List UInt8}(h:(43:UInt8) ∉ a):cutS (a++43::r) [43]=(a,r,true):=by
  rw[a6v (k:=a.length) (by simp) (by simp) (λi hi he=>?_)]
  · simp
  · rw[List.drop_append_of_le_length (by omega)] at he
    have hm:(a.drop i++43::r)[0]?=some 43:=by
      have:=congrArg (·[0]?) he
      simpa using this
    rw[List.getElem?_append_left (by rw[List.length_drop];omega),List.getElem?_drop] at hm
    exact h (List.mem_of_getElem? hm)
structure Nums (t a b c:List UInt8):Prop where
  e:t=a++46::32::(b++43::c)
  a:(num a).2=true
  b:(num b).2=true
  c:(num c).2=true
theorem Nums.i{t a b c:List UInt8}(h:Nums t a b c):numI t=(((num a).1,(num b).1,(num c).1),true):=by
  have e1:=b8b (r:=b++43::c) (a6i h.a (.inr (.inr (.inl rfl))))
  have e2:=b4j (r:=c) (a6i h.b (.inr (.inl rfl)))
  unfold numI
  rw[h.e,e1];dsimp only;rw[e2];dsimp only;rw[h.a,h.b,h.c];rfl
theorem Nums.s{t a b c:List UInt8}(h:Nums t a b c):numR t=(((num a).1,(num b).1,(num c).1),true):=by
  have na:=a6i h.a (.inl rfl);have nb:=a6i h.b (.inl rfl);have nc:=a6i h.c (.inl rfl)
  have pb:=a6i h.b (.inr (.inl rfl));have pc:=a6i h.c (.inr (.inl rfl))
  have hs:split 32 t=[a++[46],b++43::c]:=by
    rw[h.e,show a++46::32::(b++43::c)=(a++[46])++32::(b++43::c) by simp,a1n 32 _ _ (by simp[na]),a1k 32 _ (by simp[nb,nc])]
  have h0:w0 t=a++[46]:=by unfold w0;rw[hs];rfl
  have h1:w1 t=b++43::c:=by unfold w1;rw[hs];rfl
  have hv:split 43 (w1 t)=[b,c]:=by rw[h1,a1n 43 _ _ pb,a1k 43 _ pc]
  have e0:v0 t=b:=by unfold v0;rw[hv];rfl
  have e1:v1 t=c:=by unfold v1;rw[hv];rfl
  have hl:=List.length_pos_iff.2 (num_ne h.a)
  have hf:fmS t:=⟨by rw[hs];rfl,by rw[h0];simp;omega,by rw[h0];simp,by rw[hv];rfl⟩
  have ht:(w0 t).take ((w0 t).length - 1)=a:=by rw[h0];simp
  unfold numR
  rw[if_pos hf,ht,e0,e1,h.a,h.b,h.c];rfl
theorem numI_of{t:List UInt8}(h:(numI t).2=true):∃ a b c,Nums t a b c:=by
  unfold numI at h
  simp only[Bool.and_eq_true] at h
  obtain⟨⟨⟨⟨h1,h2⟩,h3⟩,h4⟩,h5⟩:=h
  have e1:=b7d h1;have e2:=b7d h2
  exact ⟨_, _, _, ⟨by conv => lhs; rw [e1, e2]
                      simp,h3,h4,h5⟩⟩
theorem split2{b:UInt8}{s:List UInt8}(h:(split b s).length=2):s=(split b s).getD 0 []++b::(split b s).getD 1 []:=by
  have hj:=a1e (b:=b) (s:=s)
  match hs:split b s,h with
  | [x,y],_=>rw[hs] at hj;simpa[joinW] using hj.symm
theorem numR_of{t:List UInt8}(h:(numR t).2=true):∃ a b c,Nums t a b c:=by
  unfold numR at h
  split at h
  · rename_i hf
    obtain⟨f1,f2,f3,f4⟩:=hf
    simp only[Bool.and_eq_true] at h
    obtain⟨⟨h1,h2⟩,h3⟩:=h
    have e1:t=w0 t++32::w1 t:=split2 f1
    have e2:w1 t=v0 t++43::v1 t:=split2 f4
    have e0:w0 t=(w0 t).take ((w0 t).length - 1)++[46]:=by
      obtain⟨hk,hv⟩:=List.getElem?_eq_some_iff.1 f3
      conv=>lhs;rw[<- List.take_append_drop ((w0 t).length - 1) (w0 t),List.drop_eq_getElem_cons hk,hv]
      rw[List.drop_eq_nil_of_le (by omega)]
    exact ⟨_, _, _, ⟨by conv => lhs; rw [e1, e0, e2]
                        simp,h1,h2,h3⟩⟩
  · exact absurd h (by decide)
theorem b9z(t:List UInt8):(numI t).2=(numR t).2/\((numI t).2=true->numI t=numR t):=by
  by_cases h:(numI t).2=true
  · obtain⟨a,b,c,hn⟩:=numI_of h
    rw[hn.i,hn.s];exact⟨rfl,λ_=>rfl⟩
  · by_cases h2:(numR t).2=true
    · obtain⟨a,b,c,hn⟩:=numR_of h2
      rw[hn.i] at h;exact absurd rfl h
    · refine⟨?_,λh9=>absurd h9 h⟩
      rw[Bool.not_eq_true] at h h2;rw[h,h2]
end Go.Proofs.YtjgohnaobbphpaaGreatDoor.M

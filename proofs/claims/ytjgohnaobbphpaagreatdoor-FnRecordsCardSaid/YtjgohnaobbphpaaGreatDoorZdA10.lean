/- Walks: D33. -/
import Derived.Test.YtjgohnaobbphpaaGreatDoorZdA4
import Derived.Test.YtjgohnaobbphpaaGreatDoorZdA9
import Derived.Test.YtjgohnaobbphpaaGreatDoorZdA7
import Derived.Test.YtjgohnaobbphpaaGreatDoorZdA8
import Derived.Test.YtjgohnaobbphpaaGreatDoorZdA3
import Derived.Test.YtjgohnaobbphpaaGreatDoorZdA5
import Derived.Test.YtjgohnaobbphpaaGreatDoorZdA6
import Derived.Test.YtjgohnaobbphpaaGreatDoorZdA2
set_option linter.unusedSimpArgs false
set_option linter.unusedVariables false
set_option maxRecDepth 100000
attribute [local irreducible] Go.Proofs.YtjgohnaobbphpaaGreatDoor.gv
set_option maxHeartbeats 8000000
namespace Go.Proofs.YtjgohnaobbphpaaGreatDoor
open Go.RowKit
theorem zq45(c1c:Nat)(s_at s_seed:Int){As_0:Option Addr}{cs_0:Nat}(list:List (List UInt8)){v_list:Value}{bs:Nat}{w:World}(hb:Bw w [boxO bs [.slice As_0 c1c cs_0,.int .i64 s_at,.int .u64 s_seed] 141])(hps_0:(Ty.bytes 5 c1c).ok (offW w (([boxO bs [.slice As_0 c1c cs_0,.int .i64 s_at,.int .u64 s_seed] 141]:List Own).flatMap (·.fp))) (.slice As_0 c1c cs_0))(h_list:(Ty.strs 9 list).ok (offW w (([boxO bs [.slice As_0 c1c cs_0,.int .i64 s_at,.int .u64 s_seed] 141]:List Own).flatMap (·.fp))) v_list)(r0:0<=s_at:=by exact om_)(r1:s_at<=999999998:=by exact om_)(r2:c1c<=1048576:=by exact om_)(r3:1<=list.length:=by exact om_)(r4:list.length<=1000:=by exact om_)(r5:∀ x∈list,x.length<=40:=by exact om_):RetB Tryz.prog 111 [.pointer (some ⟨bs,0,none⟩),v_list] w [boxO bs [.slice As_0 c1c cs_0,.int .i64 s_at,.int .u64 s_seed] 141] (λv bs'=>∃ (TX:List UInt8) (AT SD:Int),v=.string (sB TX)/\bs'=[boxO bs [.slice As_0 c1c cs_0,.int .i64 AT,.int .u64 SD] 141]/\(LenB TX 40)/\(TX.length<=40)/\(s_at<=AT)/\(AT<=s_at + 2)):=by
 revert v_list;apply opn
 intro A1 c1 h1 bl1 bh1
 have h_list:=h1
 refine enterB hb @Tryz.func111 @Tryz.ntmps111 rfl rfl ?_
 refine zent ?_
 refine Js.trashE ?_
 refine zn ?_
 refine zS<|Qa rfl<|zN<|Qm rfl<|Qm rfl<|Qm rfl<|Qz rfl<|zBB 1 sp_ rfl (λw hb _ hw=>zq0 c1c s_at s_seed (list.length:Int) hb (ok_ hw)) ?_
 rintro _ _ G2 ⟨X2KX,X2AT,X2SD,rfl,rfl,hX2_0,hX2_1,hX2_2,hX2_3⟩
 refine znl ?_
 obtain⟨y3,hy3⟩:∃ x,list[X2KX.toNat]?=some x:=⟨_,List.getElem?_eq_getElem (by omega)⟩
 obtain⟨b3,o3,he3,hc3⟩:=a0o h1 hy3
 refine Qq (a0a el_31 rfl rfl (by omega) (by omega) he3)<|QC hc3 rfl<|Qa rfl<|JL.nil ?_
 refine zrb [0] hb (Up.refl _ _) ?_
 refine⟨(y3),(X2AT),(X2SD),rfl, ?_,by first|trivial|omega|exact⟨r5 _ (List.mem_of_getElem? (by assumption))⟩|exact r5 _ (List.mem_of_getElem? (by assumption)),by first|trivial|omega|exact⟨r5 _ (List.mem_of_getElem? (by assumption))⟩|exact r5 _ (List.mem_of_getElem? (by assumption)),by first|trivial|omega|exact⟨r5 _ (List.mem_of_getElem? (by assumption))⟩|exact r5 _ (List.mem_of_getElem? (by assumption)),by first|trivial|omega|exact⟨r5 _ (List.mem_of_getElem? (by assumption))⟩|exact r5 _ (List.mem_of_getElem? (by assumption))⟩
 · rfl
theorem zq46(name:List UInt8){w:World}(r0:name∈M.stdNames:=by exact om_):Ret Tryz.prog 165 [.string (sB name)] w (Ty.tup [Ty.ex (fun (RX:M.Rul)=>(M.okR RX=true)) (λRX=>Ty.agg (cRules RX)),Ty.ex (fun (CX:Int)=>True) (λCX=>Ty.int CX)]):=by
 refine enter @Tryz.func165 @Tryz.ntmps165 rfl rfl ?_
 refine zent ?_
 refine zS<|za zeh λb1=>Qa rfl<|zJ<|zS<|Qm rfl<|JL.nil<|Js.block<|zS<|Qq (a0w und_9 rfl rfl)<|Qa rfl<|JL.nil ?_
 refine zi (λh2 h2'=>?_) λh2 h2'=>?_
 ·refine zS<|Qb ?_
  refine zw 0 rfl rfl rfl ?_
  refine Qa rfl<|JL.nil ?_
  exact zro (Up.refl _ _) (g:=by exact(a2o (gvc (gv_ex (M.Rul.mk 6 4 true false false false true 2 0) (by first|trivial|omega|decide|assumption|rfl|(dsimp only;omega)|(exfalso;simp only[M.stdNames,List.mem_cons,List.not_mem_nil,or_false] at r0;rcases r0 with rfl|rfl|rfl|rfl <;> simp_all)|exact M.a2g (by omega) (by omega) (by omega) (by omega) (by first|rfl|simp_all)) gv_) (gvc (gv_ex 0 (by first|trivial|omega|decide|assumption|rfl|(dsimp only;omega)|(exfalso;simp only[M.stdNames,List.mem_cons,List.not_mem_nil,or_false] at r0;rcases r0 with rfl|rfl|rfl|rfl <;> simp_all)|exact M.a2g (by omega) (by omega) (by omega) (by omega) (by first|rfl|simp_all)) gv_) gvn))))
 refine zS<|Qq (a0w und_9 rfl rfl)<|Qa rfl<|JL.nil ?_
 refine zi (λh3 h3'=>?_) λh3 h3'=>?_
 ·refine zS<|Qb ?_
  refine zw 0 rfl rfl rfl ?_
  refine Qa rfl<|JL.nil ?_
  exact zro (Up.refl _ _) (g:=by exact(a2o (gvc (gv_ex (M.Rul.mk 3 2 false false false true false 1 0) (by first|trivial|omega|decide|assumption|rfl|(dsimp only;omega)|(exfalso;simp only[M.stdNames,List.mem_cons,List.not_mem_nil,or_false] at r0;rcases r0 with rfl|rfl|rfl|rfl <;> simp_all)|exact M.a2g (by omega) (by omega) (by omega) (by omega) (by first|rfl|simp_all)) gv_) (gvc (gv_ex 0 (by first|trivial|omega|decide|assumption|rfl|(dsimp only;omega)|(exfalso;simp only[M.stdNames,List.mem_cons,List.not_mem_nil,or_false] at r0;rcases r0 with rfl|rfl|rfl|rfl <;> simp_all)|exact M.a2g (by omega) (by omega) (by omega) (by omega) (by first|rfl|simp_all)) gv_) gvn))))
 refine zS<|Qq (a0w und_9 rfl rfl)<|Qa rfl<|JL.nil ?_
 refine zi (λh4 h4'=>?_) λh4 h4'=>?_
 ·refine zS<|Qb ?_
  refine zw 0 rfl rfl rfl ?_
  refine Qa rfl<|JL.nil ?_
  exact zro (Up.refl _ _) (g:=by exact(a2o (gvc (gv_ex (M.Rul.mk 6 4 false true false true false 1 2) (by first|trivial|omega|decide|assumption|rfl|(dsimp only;omega)|(exfalso;simp only[M.stdNames,List.mem_cons,List.not_mem_nil,or_false] at r0;rcases r0 with rfl|rfl|rfl|rfl <;> simp_all)|exact M.a2g (by omega) (by omega) (by omega) (by omega) (by first|rfl|simp_all)) gv_) (gvc (gv_ex 0 (by first|trivial|omega|decide|assumption|rfl|(dsimp only;omega)|(exfalso;simp only[M.stdNames,List.mem_cons,List.not_mem_nil,or_false] at r0;rcases r0 with rfl|rfl|rfl|rfl <;> simp_all)|exact M.a2g (by omega) (by omega) (by omega) (by omega) (by first|rfl|simp_all)) gv_) gvn))))
 refine zS<|Qq (a0w und_9 rfl rfl)<|Qa rfl<|JL.nil ?_
 refine zi (λh5 h5'=>?_) λh5 h5'=>?_
 ·refine zS<|Qb ?_
  refine zw 0 rfl rfl rfl ?_
  refine Qa rfl<|JL.nil ?_
  exact zro (Up.refl _ _) (g:=by exact(a2o (gvc (gv_ex (M.Rul.mk 4 2 false false true false false 2 0) (by first|trivial|omega|decide|assumption|rfl|(dsimp only;omega)|(exfalso;simp only[M.stdNames,List.mem_cons,List.not_mem_nil,or_false] at r0;rcases r0 with rfl|rfl|rfl|rfl <;> simp_all)|exact M.a2g (by omega) (by omega) (by omega) (by omega) (by first|rfl|simp_all)) gv_) (gvc (gv_ex 0 (by first|trivial|omega|decide|assumption|rfl|(dsimp only;omega)|(exfalso;simp only[M.stdNames,List.mem_cons,List.not_mem_nil,or_false] at r0;rcases r0 with rfl|rfl|rfl|rfl <;> simp_all)|exact M.a2g (by omega) (by omega) (by omega) (by omega) (by first|rfl|simp_all)) gv_) gvn))))
 refine Js.skip<|Js.blockEnd<|zS<|Qb ?_
 refine zw 0 rfl rfl rfl ?_
 refine Qa rfl<|JL.nil ?_
 exact zro (Up.refl _ _) (g:=by exact(a2o (gvc (gv_ex (M.Rul.mk 0 0 false false false false false 0 0) (by first|trivial|omega|decide|assumption|rfl|(dsimp only;omega)|(exfalso;simp only[M.stdNames,List.mem_cons,List.not_mem_nil,or_false] at r0;rcases r0 with rfl|rfl|rfl|rfl <;> simp_all)|exact M.a2g (by omega) (by omega) (by omega) (by omega) (by first|rfl|simp_all)) gv_) (gvc (gv_ex 3 (by first|trivial|omega|decide|assumption|rfl|(dsimp only;omega)|(exfalso;simp only[M.stdNames,List.mem_cons,List.not_mem_nil,or_false] at r0;rcases r0 with rfl|rfl|rfl|rfl <;> simp_all)|exact M.a2g (by omega) (by omega) (by omega) (by omega) (by first|rfl|simp_all)) gv_) gvn))))
theorem zq88(c1c:Nat)(s_at s_seed:Int){As_0:Option Addr}{cs_0 bs:Nat}{w:World}(hb:Bw w [boxO bs [.slice As_0 c1c cs_0,.int .i64 s_at,.int .u64 s_seed] 141])(hps_0:(Ty.bytes 5 c1c).ok (offW w (([boxO bs [.slice As_0 c1c cs_0,.int .i64 s_at,.int .u64 s_seed] 141]:List Own).flatMap (·.fp))) (.slice As_0 c1c cs_0))(r0:0<=s_at:=by exact om_)(r1:s_at<=999999960:=by exact om_)(r2:c1c<=1048576:=by exact om_):RetB Tryz.prog 164 [.pointer (some ⟨bs,0,none⟩)] w [boxO bs [.slice As_0 c1c cs_0,.int .i64 s_at,.int .u64 s_seed] 141] (λv bs'=>∃ (RX:M.Rul) (AT SD:Int),v=.agg #[.int .i64 RX.pits,.int .i64 RX.seeds,.bool RX.stores,.bool RX.skip,.bool RX.relay,.bool RX.feed,.bool RX.again,.int .i64 RX.capture,.int .i64 RX.slam]/\bs'=[boxO bs [.slice As_0 c1c cs_0,.int .i64 AT,.int .u64 SD] 141]/\(M.okR RX=true)/\(s_at<=AT)/\(AT<=s_at + 40)):=by
 refine enterB hb @Tryz.func164 @Tryz.ntmps164 rfl rfl ?_
 refine zent ?_
 refine Js.trashE ?_
 refine zn ?_
 refine zS<|za zeh λb1=>zJ<|zS<|Qm rfl ?_
 refine zhl [1] ?_
 refine zBB 1 sp_ rfl (λw hb _ hw=>zq1 c1c s_at s_seed 3 hb (ok_ hw)) ?_
 rintro _ _ G2 ⟨X2BX,X2AT,X2SD,rfl,rfl,hX2_0,hX2_1⟩
 refine znl ?_
 refine JL.nil ?_
 refine zf [0,1] λGG3=>?_
 refine zn ?_
 refine zi (λh4 h4'=>?_) λh4 h4'=>?_
 ·refine zS<|Qm rfl<|zp rfl (λw hw=>zq18) ?_
  intro u5 x5 A6 c6 h6 bl6 bh6
  refine zBB 1 sp_ rfl (λw hb _ hw=>zq19 c1c X2AT X2SD M.stdNames hb (ok_ hw) (ok_ hw) (r3:=(by decide)) (r4:=(by decide))) ?_
  rintro _ _ G7 ⟨X7TX,X7AT,X7SD,rfl,rfl,hX7_0,hX7_1,hX7_2⟩
  refine znl ?_
  refine zp rfl (λw hw=>zq46 X7TX (r0:=(by assumption))) ?_
  intro u8 x8 X9 hX9 X10 hX10
  refine Qm rfl<|Qx rfl rfl<|Qx rfl rfl<|za zeh λb11=>zw 0 rfl rfl rfl ?_
  refine Qa rfl<|JL.nil ?_
  refine zf [0,0,1] λGG12=>?_
  refine zn ?_
  refine zS<|Q9 0 rfl rfl ?_
  refine zw 2 rfl rfl rfl ?_
  refine JL.nil ?_
  refine zf [1,1] λGG13=>?_
  refine zn ?_
  refine zrb [0] hb (x5.trans x8) ?_
  refine⟨(X9),(X7AT),(X7SD),rfl, ?_,by first|trivial|omega|decide|assumption|rfl|(dsimp only;omega)|(exfalso;simp only[M.stdNames,List.mem_cons,List.not_mem_nil,or_false] at r0;rcases r0 with rfl|rfl|rfl|rfl <;> simp_all)|exact M.a2g (by omega) (by omega) (by omega) (by omega) (by first|rfl|simp_all),by first|trivial|omega|decide|assumption|rfl|(dsimp only;omega)|(exfalso;simp only[M.stdNames,List.mem_cons,List.not_mem_nil,or_false] at r0;rcases r0 with rfl|rfl|rfl|rfl <;> simp_all)|exact M.a2g (by omega) (by omega) (by omega) (by omega) (by first|rfl|simp_all),by first|trivial|omega|decide|assumption|rfl|(dsimp only;omega)|(exfalso;simp only[M.stdNames,List.mem_cons,List.not_mem_nil,or_false] at r0;rcases r0 with rfl|rfl|rfl|rfl <;> simp_all)|exact M.a2g (by omega) (by omega) (by omega) (by omega) (by first|rfl|simp_all)⟩
  · rfl
 refine Js.skip<|zS<|Qm rfl<|zBB 1 sp_ rfl (λw hb _ hw=>zq0 c1c X2AT X2SD 4 hb (ok_ hw)) ?_
 rintro _ _ G14 ⟨X14KX,X14AT,X14SD,rfl,rfl,hX14_0,hX14_1,hX14_2,hX14_3⟩
 refine znl ?_
 refine Qp rfl rfl<|Qm rfl<|zBB 1 sp_ rfl (λw hb _ hw=>zq0 c1c X14AT X14SD 4 hb (ok_ hw)) ?_
 rintro _ _ G15 ⟨X15KX,X15AT,X15SD,rfl,rfl,hX15_0,hX15_1,hX15_2,hX15_3⟩
 refine znl ?_
 refine Qp rfl rfl<|Qb ?_
 refine za zeh λb16=>zw 0 rfl rfl rfl ?_
 refine JL.nil ?_
 refine zf [0,0,2] λGG17=>?_
 refine zn ?_
 refine zS<|Qm rfl ?_
 refine zhl [1] ?_
 refine zBB 1 sp_ rfl (λw hb _ hw=>zq1 c1c X15AT X15SD 2 hb (ok_ hw)) ?_
 rintro _ _ G18 ⟨X18BX,X18AT,X18SD,rfl,rfl,hX18_0,hX18_1⟩
 refine znl ?_
 refine Qf fh rfl<|zw 2 rfl rfl rfl ?_
 refine JL.nil ?_
 refine zf [0,1,1] λGG19=>?_
 refine zn ?_
 refine zS<|Qm rfl<|zBB 1 sp_ rfl (λw hb _ hw=>zq1 c1c X18AT X18SD 2 hb (ok_ hw)) ?_
 rintro _ _ G20 ⟨X20BX,X20AT,X20SD,rfl,rfl,hX20_0,hX20_1⟩
 refine znl ?_
 refine Qf fh rfl<|zw 2 rfl rfl rfl ?_
 refine JL.nil ?_
 refine zf [0,1,1] λGG21=>?_
 refine zn ?_
 refine zS<|Qm rfl<|zBB 1 sp_ rfl (λw hb _ hw=>zq1 c1c X20AT X20SD 4 hb (ok_ hw)) ?_
 rintro _ _ G22 ⟨X22BX,X22AT,X22SD,rfl,rfl,hX22_0,hX22_1⟩
 refine znl ?_
 refine Qf fh rfl<|zw 2 rfl rfl rfl ?_
 refine JL.nil ?_
 refine zf [0,1,1] λGG23=>?_
 refine zn ?_
 refine zS<|Qm rfl<|zBB 1 sp_ rfl (λw hb _ hw=>zq1 c1c X22AT X22SD 2 hb (ok_ hw)) ?_
 rintro _ _ G24 ⟨X24BX,X24AT,X24SD,rfl,rfl,hX24_0,hX24_1⟩
 refine znl ?_
 refine Qf fh rfl<|zw 2 rfl rfl rfl ?_
 refine JL.nil ?_
 refine zf [0,1,1] λGG25=>?_
 refine zn ?_
 refine Js.seq ?_
 rcases Bool.eq_false_or_eq_true (X18BX) with h26|h26
 ·refine Js.region<|Qf fh rfl<|Q0 1 rfl rfl rfl<|Qm rfl<|zT (Gd.t1 rfl rfl rfl) (show X18BX=true by first|exact h26|(rw[h26];rfl)|simp[h26])<|Qm rfl<|zT (Gd.t1 rfl rfl rfl) (show X18BX=true by first|exact h26|(rw[h26];rfl)|simp[h26])<|zBB 1 sp_ rfl (λw hb _ hw=>zq1 c1c X24AT X24SD 2 hb (ok_ hw)) ?_
  rintro _ _ G27 ⟨X27BX,X27AT,X27SD,rfl,rfl,hX27_0,hX27_1⟩
  refine znl ?_
  refine Qq (a3k rfl rfl rfl)<|Qf fh rfl<|zw 2 rfl rfl rfl ?_
  refine JL.nil ?_
  refine zf [0,1,1] λGG28=>?_
  refine zn ?_
  refine zS<|Qm rfl<|zBB 1 sp_ rfl (λw hb _ hw=>zq0 c1c X27AT X27SD 4 hb (ok_ hw)) ?_
  rintro _ _ G29 ⟨X29KX,X29AT,X29SD,rfl,rfl,hX29_0,hX29_1,hX29_2,hX29_3⟩
  refine znl ?_
  refine Qf fh rfl<|zw 2 rfl rfl rfl ?_
  refine JL.nil ?_
  refine zf [0,1,1] λGG30=>?_
  refine zn ?_
  refine zS<|Qm rfl<|zBB 1 sp_ rfl (λw hb _ hw=>zq0 c1c X29AT X29SD 3 hb (ok_ hw)) ?_
  rintro _ _ G31 ⟨X31KX,X31AT,X31SD,rfl,rfl,hX31_0,hX31_1,hX31_2,hX31_3⟩
  refine znl ?_
  refine Qf fh rfl<|zw 2 rfl rfl rfl ?_
  refine JL.nil ?_
  refine zf [0,1,1] λGG32=>?_
  refine zn ?_
  refine zS<|Q9 1 rfl rfl ?_
  refine zw 2 rfl rfl rfl ?_
  refine JL.nil ?_
  refine zf [0,1] λGG33=>?_
  refine zn ?_
  refine zrb [0] hb (Up.refl _ _) ?_
  refine⟨((M.Rul.mk (2 + X14KX) (1 + X15KX) X18BX X20BX X22BX X24BX (X18BX && X27BX) X29KX X31KX)),(X31AT),(X31SD),rfl, ?_,by first|trivial|omega|decide|assumption|rfl|(dsimp only;omega)|(exfalso;simp only[M.stdNames,List.mem_cons,List.not_mem_nil,or_false] at r0;rcases r0 with rfl|rfl|rfl|rfl <;> simp_all)|exact M.a2g (by omega) (by omega) (by omega) (by omega) (by first|rfl|simp_all),by first|trivial|omega|decide|assumption|rfl|(dsimp only;omega)|(exfalso;simp only[M.stdNames,List.mem_cons,List.not_mem_nil,or_false] at r0;rcases r0 with rfl|rfl|rfl|rfl <;> simp_all)|exact M.a2g (by omega) (by omega) (by omega) (by omega) (by first|rfl|simp_all),by first|trivial|omega|decide|assumption|rfl|(dsimp only;omega)|(exfalso;simp only[M.stdNames,List.mem_cons,List.not_mem_nil,or_false] at r0;rcases r0 with rfl|rfl|rfl|rfl <;> simp_all)|exact M.a2g (by omega) (by omega) (by omega) (by omega) (by first|rfl|simp_all)⟩
  · rfl
 refine Js.region<|Qf fh rfl<|Q0 1 rfl rfl rfl<|Qm rfl ?_
 refine JL.g (v:=undef) (Gd.t1 rfl rfl rfl) (λhc=>absurd hc (by first|(rw[h26];simp;done)|simp[h26])) ?_
 refine JL.g (v:=.bool false) (Gd.t1 rfl rfl rfl) (λhc=>absurd hc (by first|(rw[h26];simp;done)|simp[h26])) ?_
 refine Qq (a0d rfl rfl rfl)<|Qf fh rfl<|zw 1 rfl rfl rfl ?_
 refine zN<|Qm rfl<|zBB 1 sp_ rfl (λw hb _ hw=>zq0 c1c X24AT X24SD 4 hb (ok_ hw)) ?_
 rintro _ _ G34 ⟨X34KX,X34AT,X34SD,rfl,rfl,hX34_0,hX34_1,hX34_2,hX34_3⟩
 refine znl ?_
 refine Qf fh rfl<|zw 2 rfl rfl rfl ?_
 refine JL.nil ?_
 refine zf [0,1,1] λGG35=>?_
 refine zn ?_
 refine zS<|Qm rfl<|zBB 1 sp_ rfl (λw hb _ hw=>zq0 c1c X34AT X34SD 3 hb (ok_ hw)) ?_
 rintro _ _ G36 ⟨X36KX,X36AT,X36SD,rfl,rfl,hX36_0,hX36_1,hX36_2,hX36_3⟩
 refine znl ?_
 refine Qf fh rfl<|zw 2 rfl rfl rfl ?_
 refine JL.nil ?_
 refine zf [0,1,1] λGG37=>?_
 refine zn ?_
 refine zS<|Q9 1 rfl rfl ?_
 refine zw 2 rfl rfl rfl ?_
 refine JL.nil ?_
 refine zf [0,1] λGG38=>?_
 refine zn ?_
 refine zrb [0] hb (Up.refl _ _) ?_
 refine⟨((M.Rul.mk (2 + X14KX) (1 + X15KX) X18BX X20BX X22BX X24BX (X18BX && false) X34KX X36KX)),(X36AT),(X36SD),rfl, ?_,by first|trivial|omega|decide|assumption|rfl|(dsimp only;omega)|(exfalso;simp only[M.stdNames,List.mem_cons,List.not_mem_nil,or_false] at r0;rcases r0 with rfl|rfl|rfl|rfl <;> simp_all)|exact M.a2g (by omega) (by omega) (by omega) (by omega) (by first|rfl|simp_all),by first|trivial|omega|decide|assumption|rfl|(dsimp only;omega)|(exfalso;simp only[M.stdNames,List.mem_cons,List.not_mem_nil,or_false] at r0;rcases r0 with rfl|rfl|rfl|rfl <;> simp_all)|exact M.a2g (by omega) (by omega) (by omega) (by omega) (by first|rfl|simp_all),by first|trivial|omega|decide|assumption|rfl|(dsimp only;omega)|(exfalso;simp only[M.stdNames,List.mem_cons,List.not_mem_nil,or_false] at r0;rcases r0 with rfl|rfl|rfl|rfl <;> simp_all)|exact M.a2g (by omega) (by omega) (by omega) (by omega) (by first|rfl|simp_all)⟩
 · rfl
theorem zq89(c1c:Nat)(s_at s_seed:Int){As_0:Option Addr}{cs_0:Nat}(r:M.Rul){v_r:Value}{bs:Nat}{w:World}(hb:Bw w [boxO bs [.slice As_0 c1c cs_0,.int .i64 s_at,.int .u64 s_seed] 141])(hps_0:(Ty.bytes 5 c1c).ok (offW w (([boxO bs [.slice As_0 c1c cs_0,.int .i64 s_at,.int .u64 s_seed] 141]:List Own).flatMap (·.fp))) (.slice As_0 c1c cs_0))(h_r:(Ty.ref (cRules r)).ok (offW w (([boxO bs [.slice As_0 c1c cs_0,.int .i64 s_at,.int .u64 s_seed] 141]:List Own).flatMap (·.fp))) v_r)(r0:0<=s_at:=by exact om_)(r1:s_at<=999999800:=by exact om_)(r2:c1c<=1048576:=by exact om_)(r3:M.okR r=true:=by exact om_):RetB Tryz.prog 137 [.pointer (some ⟨bs,0,none⟩),v_r] w [boxO bs [.slice As_0 c1c cs_0,.int .i64 s_at,.int .u64 s_seed] 141] (λv bs'=>∃ (PX:M.Pos) (AT SD:Int) (Axr_0:Option Addr) (cxr_0:Nat) (gxr_0:List Nat) (Axr_1:Option Addr) (cxr_1:Nat) (gxr_1:List Nat),v=.agg #[.slice Axr_0 PX.pits.length cxr_0,.slice Axr_1 PX.stores.length cxr_1,.int .i64 PX.player]/\bs'=[boxO bs [.slice As_0 c1c cs_0,.int .i64 AT,.int .u64 SD] 141,rowO 2 1 (.slice Axr_0 PX.pits.length cxr_0) PX.pits.length (ints_ PX.pits) gxr_0,rowO 2 1 (.slice Axr_1 PX.stores.length cxr_1) PX.stores.length (ints_ PX.stores) gxr_1]/\PX.pits.length<=cxr_0/\cxr_0<=9223372036854775807/\PX.stores.length<=cxr_1/\cxr_1<=9223372036854775807/\(M.okP r PX=true)/\(s_at<=AT)/\(AT<=s_at + 200)):=by
 obtain⟨g1,g2,_⟩:=M.a6q r3
 have hl0:(M.startP r).pits.length=(2 * r.pits).toNat:=by simp[M.startP]
 have hl1:(M.startP r).stores.length=2:=rfl
 revert v_r;apply opn
 intro b1 o1 hr1
 refine enterB hb @Tryz.func137 @Tryz.ntmps137 rfl rfl ?_
 refine zent ?_
 refine Js.trashE ?_
 refine zn ?_
 refine zS<|za zeh λb2=>zN<|Qm rfl<|zc rfl (λw hw=>zq20 r (ok_ hw)) ?_
 intro A4 c4 bl4 bh4 A5 c5 bl5 bh5
 refine za zeh λb6=>zw 0 rfl rfl rfl ?_
 refine zN<|Qm rfl ?_
 refine zhl [4] ?_
 refine zBB 1 sp_ rfl (λw hb _ hw=>zq1 c1c s_at s_seed 2 hb (ok_ hw)) ?_
 rintro _ _ G7 ⟨X7BX,X7AT,X7SD,rfl,rfl,hX7_0,hX7_1⟩
 refine znl ?_
 refine Qa rfl<|JL.nil ?_
 refine zf [0,1,1,1,1] λGG8=>?_
 refine zn ?_
 refine Js.seq<|zS<|Qa rfl<|JL.nil<|Js.block ?_
 refine zl [0,1,4,5,6] (λF U l os u m=>∃ (k:Nat) (at1 sd1:Int) (xs:List Int) (G9_5:List Nat),l=F [(7,.int .i64 (k:Int))]/\os=U [some (boxO bs [.slice As_0 c1c cs_0,.int .i64 at1,.int .u64 sd1] 141),nO,nO,some (rowO 2 1 (.slice A4 (((M.startP r).pits).length) c4) (((M.startP r).pits).length) (ints_ xs) []),nO,some (anyO G9_5)]/\(xs.length=(M.startP r).pits.length)/\(k<=xs.length)/\(s_at<=at1)/\(at1<=s_at + 4 + 4 * k)/\(M.Lo xs k)/\m=xs.length - k) ⟨0,X7AT,X7SD,(M.startP r).pits,_,rfl,rfl,by rfl,zt,zt,zt,by exact M.Lo.zero _,rfl⟩ ?_
 rintro _ _ u9 _ ⟨k,at1,sd1,xs,G9_5,rfl,rfl,hX,hk,ha0,ha1,hLo,rfl⟩ x9
 refine zn ?_
 refine Js.seq<|zS<|Qm rfl<|Qf fh rfl<|Q0 1 rfl rfl rfl<|Qz rfl<|Ql rfl rfl<|JL.nil ?_
 refine zi (λh10 h10'=>?_) λh10 h10'=>?_
 ·refine Js.skip<|Js.seq<|Js.block<|Js.seq ?_
  refine Js.fact (a0s (i:=3) rfl (by omega)) (λhf11=>?_)
  obtain⟨b11,rfl⟩:=hf11
  refine zk [0,1,4,5,6,7] (λF U l os u=>∃ (G12:List Nat) (X12AT X12SD X12KX:Int),l=F []/\os=[anyO G12]++U [some (boxO bs [.slice As_0 c1c cs_0,.int .i64 X12AT,.int .u64 X12SD] 141),nO,nO,some (rowO 2 1 (.slice (some ⟨b11,0,none⟩) (((M.startP r).pits).length) c4) (((M.startP r).pits).length) (ints_ (xs.set k X12KX)) [])]/\(at1<=X12AT)/\(X12AT<=at1 + 2)/\(0<=X12KX)/\(X12KX=0\/X12KX < 6)) ?_ ?_
  ·refine zdr [4,6] ?_
   refine jF 0 a1a rfl rfl ?_
   refine jM 2 rfl rfl ?_
   refine jM 3 rfl rfl ?_
   refine y2 1 4 ?_ ?_
   ·refine JHo.q rfl (a0c ty_26.h rfl (Mem.box (i:=1) rfl rfl)) ?_
    refine y1 4 ?_
    refine yBB 1 sp_ rfl rfl (λw hb _ hw=>zq0 c1c at1 sd1 6 hb (ok_ hw)) ?_
    rintro _ _ G17 ⟨X17KX,X17AT,X17SD,rfl,rfl,hX17_0,hX17_1,hX17_2,hX17_3⟩
    refine znh ?_
    refine jI 5 el_26 rfl rfl rfl rfl ?_
    refine y1 6 ?_
    refine JHo.s rfl (a0i (i:=4) (xs':=ints_ (xs.set k X17KX)) ty_2.h rfl rfl rfl rfl rfl rfl (a0q (i:=k) (by omega)) (a0m (i:=k) (by omega))) (.inr rfl) ?_
    rintro _ _ _ ⟨rfl,rfl⟩ _
    refine znh ?_
    refine yd ?_
    refine zh [1,0,0,0,0,0,0] ?_
    exact zm ⟨_,_,_,_,rfl,rfl,zt,zt,zt,zt⟩ (Up.refl _ _) ⟨rfl,rfl,rfl,rfl,rfl,rfl,trivial⟩
   refine yBB 1 sp_ rfl rfl (λw hb _ hw=>zq0 c1c at1 sd1 6 hb (ok_ hw)) ?_
   rintro _ _ G19 ⟨X19KX,X19AT,X19SD,rfl,rfl,hX19_0,hX19_1,hX19_2,hX19_3⟩
   refine znh ?_
   refine y1 1 ?_
   refine JHo.q rfl (a0c ty_26.h rfl (Mem.box (i:=2) rfl rfl)) ?_
   refine jI 5 el_26 rfl rfl rfl rfl ?_
   refine y1 6 ?_
   refine JHo.s rfl (a0i (i:=4) (xs':=ints_ (xs.set k X19KX)) ty_2.h rfl rfl rfl rfl rfl rfl (a0q (i:=k) (by omega)) (a0m (i:=k) (by omega))) (.inr rfl) ?_
   rintro _ _ _ ⟨rfl,rfl⟩ _
   refine znh ?_
   refine yd ?_
   refine zh [1,0,0,0,0,0,0] ?_
   exact zm ⟨_,_,_,_,rfl,rfl,zt,zt,zt,zt⟩ (Up.refl _ _) ⟨rfl,rfl,rfl,rfl,rfl,rfl,trivial⟩
  rintro _ _ u16 ⟨G12,X12AT,X12SD,X12KX,rfl,rfl,f16_0,f16_1,f16_2,f16_3⟩ x16
  refine zn ?_
  refine zf [1,1,1,1,1] λGG21=>?_
  refine zn ?_
  refine Js.seq ?_
  rcases Bool.eq_false_or_eq_true (X7BX) with h22|h22
  ·refine Js.region<|Qm rfl<|Qm rfl<|zT (Gd.t1 rfl rfl rfl) (show X7BX=true by first|exact h22|(rw[h22];rfl)|simp[h22])<|Qm rfl<|zT (Gd.t1 rfl rfl rfl) (show X7BX=true by first|exact h22|(rw[h22];rfl)|simp[h22])<|zBB 1 sp_ rfl (λw hb _ hw=>zq1 c1c X12AT X12SD 3 hb (ok_ hw)) ?_
   rintro _ _ G23 ⟨X23BX,X23AT,X23SD,rfl,rfl,hX23_0,hX23_1⟩
   refine znl ?_
   refine zT (Gd.t1 rfl rfl rfl) (show X7BX=true by first|exact h22|(rw[h22];rfl)|simp[h22])<|Qt rfl<|Qq (a3k rfl rfl rfl)<|JL.nil ?_
   refine zf [0,1,1,1,1] λGG24=>?_
   refine zn ?_
   refine zi (λh25 h25'=>?_) λh25 h25'=>?_
   ·refine Js.region<|Qf fh rfl<|Q0 1 rfl rfl rfl<|Qm rfl<|Qq (a0a el_26 rfl rfl (by omega) (by omega) rfl) ?_
    refine JL.s (a0i (i:=3) (xs':=ints_ ((xs.set k X12KX).set k 0)) ty_2.h rfl rfl rfl rfl rfl rfl (a0q (i:=k) (by simp only[List.length_set];omega)) (a0m (i:=k) (by simp only[List.length_set];omega))) ?_
    rintro _ _ _ ⟨rfl,rfl⟩ _
    refine znl ?_
    refine JL.nil<|Js.blockEnd<|Js.region<|Qm rfl<|Qp rfl rfl<|Qa rfl<|JL.nil ?_
    exact zag ⟨k + 1,X23AT,X23SD,(xs.set k X12KX).set k 0,_,rfl,rfl,by simp only[List.length_set];exact hX,by simp only[List.length_set];omega,zt,zt,by first|exact hLo.step (by omega) (by omega) (by omega)|exact hLo.step2 (by omega),rfl⟩ (x9.trans x16) (by simp only[List.length_set];omega)
   refine Js.skip<|Js.blockEnd<|Js.region<|Qm rfl<|Qp rfl rfl<|Qa rfl<|JL.nil ?_
   exact zag ⟨k + 1,X23AT,X23SD,xs.set k X12KX,_,rfl,rfl,by simp only[List.length_set];exact hX,by simp only[List.length_set];omega,zt,zt,by first|exact hLo.step (by omega) (by omega) (by omega)|exact hLo.step2 (by omega),rfl⟩ (x9.trans x16) (by simp only[List.length_set];omega)
  refine Js.region<|Qm rfl<|Qm rfl ?_
  refine JL.g (v:=undef) (Gd.t1 rfl rfl rfl) (λhc=>absurd hc (by first|(rw[h22];simp;done)|simp[h22])) ?_
  refine JL.g (v:=.bool false) (Gd.t1 rfl rfl rfl) (λhc=>absurd hc (by first|(rw[h22];simp;done)|simp[h22])) ?_
  refine JL.g (v:=.bool false) (Gd.t1 rfl rfl rfl) (λhc=>absurd hc (by first|(rw[h22];simp;done)|simp[h22])) ?_
  refine Qq (a0d rfl rfl rfl)<|JL.nil ?_
  refine zi (λh27 h27'=>?_) λh27 h27'=>?_
  ·refine Js.region<|Qf fh rfl<|Q0 1 rfl rfl rfl<|Qm rfl<|Qq (a0a el_26 rfl rfl (by omega) (by omega) rfl) ?_
   refine JL.s (a0i (i:=3) (xs':=ints_ ((xs.set k X12KX).set k 0)) ty_2.h rfl rfl rfl rfl rfl rfl (a0q (i:=k) (by simp only[List.length_set];omega)) (a0m (i:=k) (by simp only[List.length_set];omega))) ?_
   rintro _ _ _ ⟨rfl,rfl⟩ _
   refine znl ?_
   refine JL.nil<|Js.blockEnd<|Js.region<|Qm rfl<|Qp rfl rfl<|Qa rfl<|JL.nil ?_
   exact zag ⟨k + 1,X12AT,X12SD,(xs.set k X12KX).set k 0,_,rfl,rfl,by simp only[List.length_set];exact hX,by simp only[List.length_set];omega,zt,zt,by first|exact hLo.step (by omega) (by omega) (by omega)|exact hLo.step2 (by omega),rfl⟩ (x9.trans x16) (by simp only[List.length_set];omega)
  refine Js.skip<|Js.blockEnd<|Js.region<|Qm rfl<|Qp rfl rfl<|Qa rfl<|JL.nil ?_
  exact zag ⟨k + 1,X12AT,X12SD,xs.set k X12KX,_,rfl,rfl,by simp only[List.length_set];exact hX,by simp only[List.length_set];omega,zt,zt,by first|exact hLo.step (by omega) (by omega) (by omega)|exact hLo.step2 (by omega),rfl⟩ (x9.trans x16) (by simp only[List.length_set];omega)
 have hLe:M.Lo xs xs.length:=by have h9:k=xs.length:=(by have:=h10';omega);rw[<- h9];exact hLo
 refine zx ?_
 refine Js.seq<|zS<|Qm rfl<|zBB 1 sp_ rfl (λw hb _ hw=>zq1 c1c at1 sd1 8 hb (ok_ hw)) ?_
 rintro _ _ G29 ⟨X29BX,X29AT,X29SD,rfl,rfl,hX29_0,hX29_1⟩
 refine znl ?_
 refine JL.nil ?_
 refine zf [0,1,1,1,1] λGG30=>?_
 refine zn ?_
 refine zi (λh31 h31'=>?_) λh31 h31'=>?_
 ·refine zS<|Qm rfl<|zBB 1 sp_ rfl (λw hb _ hw=>zq0 c1c X29AT X29SD 2 hb (ok_ hw)) ?_
  rintro _ _ G32 ⟨X32KX,X32AT,X32SD,rfl,rfl,hX32_0,hX32_1,hX32_2,hX32_3⟩
  refine znl ?_
  refine Qa rfl<|JL.nil ?_
  refine zf [0,1,1,1,1] λGG33=>?_
  refine zn ?_
  have hm9:=M.mul01 (a:=X32KX) (n:=r.pits) (by omega) (by omega) (by omega) (by omega)
  obtain⟨sd9,hsd9⟩:∃ x:Int,x=X32KX * r.pits:=⟨_,rfl⟩
  refine zS<|Qm rfl<|Qm rfl<|Qc rfl<|Qf fh rfl<|QC ((hr1.vis x9.vis) 0 _ rfl) rfl<|Qu rfl rfl<|Qa rfl<|JL.nil<|Js.block ?_
  refine zl [0,1,4,5,8] (λF U l os u m=>∃ (j:Int) (ys:List Int) (G34_5:List Nat),l=F [(9,.int .i64 j)]/\os=U [nO,nO,nO,some (rowO 2 1 (.slice A4 (((M.startP r).pits).length) c4) (((M.startP r).pits).length) (ints_ ys) []),nO,some (anyO G34_5)]/\(ys.length=(M.startP r).pits.length)/\(sd9<=j)/\(j<=sd9 + r.pits)/\(M.Lo ys ys.length)/\m=(sd9 + r.pits - j).toNat) ⟨X32KX * r.pits,xs,_,rfl,rfl,zt,zt,zt,by exact hLe,rfl⟩ ?_
  rintro _ _ u34 _ ⟨j,ys,G34_5,rfl,rfl,hY,hj0,hj1,hLy,rfl⟩ x34
  refine zn ?_
  refine Js.seq<|zS<|Qm rfl<|Qm rfl<|Qp rfl rfl<|Qm rfl<|Qc rfl<|Qf fh rfl<|QC ((hr1.vis (x9.vis.trans x34.vis)) 0 _ rfl) rfl<|Qu rfl rfl<|Ql rfl rfl<|JL.nil ?_
  refine zi (λh35 h35'=>?_) λh35 h35'=>?_
  ·refine Js.skip<|Js.seq<|Js.block ?_
   refine Js.fact (a0s (i:=3) rfl (by omega)) (λhf36=>?_)
   obtain⟨b36,rfl⟩:=hf36
   refine Js.region<|Qf fh rfl<|Q0 1 rfl rfl rfl<|Qm rfl<|Qq (a0a el_26 rfl rfl (by omega) (by omega) rfl) ?_
   refine JL.s (a0i (i:=3) (xs':=ints_ (M.setI ys j 0)) ty_2.h rfl rfl rfl rfl rfl rfl (a0q (i:=j.toNat) (by omega)) (a0m (i:=j.toNat) (by omega))) ?_
   rintro _ _ _ ⟨rfl,rfl⟩ _
   refine znl ?_
   refine JL.nil<|Js.blockEnd<|Js.region<|Qm rfl<|Qp rfl rfl<|Qa rfl<|JL.nil ?_
   exact zag ⟨j + 1,M.setI ys j 0,_,rfl,rfl,by simp only[M.a0h,List.length_set];exact hY,zt,zt,by simp only[M.a0h];exact hLy.setI (by omega) (by omega),rfl⟩ x34
  refine zx ?_
  refine Js.seq ?_
  refine zk [0,4,5] (λF U l os u=>∃ (G38:List Nat) (X38AT X38SD:Int) (b40:Nat) (X38KX:Int),l=F []/\os=[anyO G38]++U [some (boxO bs [.slice As_0 c1c cs_0,.int .i64 X38AT,.int .u64 X38SD] 141),some (boxO b6 [.slice A4 (((M.startP r).pits).length) c4,.slice (some ⟨b40,0,none⟩) (((M.startP r).stores).length) c5,.int .i64 ((M.startP r).player)] 28),some (rowO 2 1 (.slice (some ⟨b40,0,none⟩) (((M.startP r).stores).length) c5) (((M.startP r).stores).length) (ints_ (((M.startP r).stores).set 0 X38KX)) [])]/\(X32AT<=X38AT)/\(X38AT<=X32AT + 2)/\(0<=X38KX)/\(X38KX=0\/X38KX < 8)) ?_ ?_
  ·refine zdr [3,5] ?_
   refine jF 0 a0z rfl rfl ?_
   refine jM 2 rfl rfl ?_
   refine y2 1 3 ?_ ?_
   ·refine JHo.q rfl (a0c ty_26.h rfl (Mem.box (i:=1) rfl rfl)) ?_
    refine y1 3 ?_
    refine yBB 1 sp_ rfl rfl (λw hb _ hw=>zq0 c1c X32AT X32SD 8 hb (ok_ hw)) ?_
    rintro _ _ G45 ⟨X45KX,X45AT,X45SD,rfl,rfl,hX45_0,hX45_1,hX45_2,hX45_3⟩
    refine znh ?_
    refine JH.fact (a0s (i:=3) rfl (by omega)) (λhf47=>?_)
    obtain⟨b47,rfl⟩:=hf47
    refine jI 4 el_26 rfl rfl rfl rfl ?_
    refine y1 5 ?_
    refine JHo.s rfl (a0i (i:=3) (xs':=ints_ (((M.startP r).stores).set 0 X45KX)) ty_2.h rfl rfl rfl rfl rfl rfl (a0q (i:=0) (by omega)) (a0m (i:=0) (by omega))) (.inr rfl) ?_
    rintro _ _ _ ⟨rfl,rfl⟩ _
    refine znh ?_
    refine yd ?_
    refine zh [1,0,0,0,0,0,0] ?_
    exact zm ⟨_,_,_,_,_,rfl,rfl,zt,zt,zt,zt⟩ (Up.refl _ _) ⟨rfl,rfl,rfl,trivial⟩
   refine yBB 1 sp_ rfl rfl (λw hb _ hw=>zq0 c1c X32AT X32SD 8 hb (ok_ hw)) ?_
   rintro _ _ G48 ⟨X48KX,X48AT,X48SD,rfl,rfl,hX48_0,hX48_1,hX48_2,hX48_3⟩
   refine znh ?_
   refine y1 1 ?_
   refine JHo.q rfl (a0c ty_26.h rfl (Mem.box (i:=2) rfl rfl)) ?_
   refine JH.fact (a0s (i:=3) rfl (by omega)) (λhf50=>?_)
   obtain⟨b50,rfl⟩:=hf50
   refine jI 4 el_26 rfl rfl rfl rfl ?_
   refine y1 5 ?_
   refine JHo.s rfl (a0i (i:=3) (xs':=ints_ (((M.startP r).stores).set 0 X48KX)) ty_2.h rfl rfl rfl rfl rfl rfl (a0q (i:=0) (by omega)) (a0m (i:=0) (by omega))) (.inr rfl) ?_
   rintro _ _ _ ⟨rfl,rfl⟩ _
   refine znh ?_
   refine yd ?_
   refine zh [1,0,0,0,0,0,0] ?_
   exact zm ⟨_,_,_,_,_,rfl,rfl,zt,zt,zt,zt⟩ (Up.refl _ _) ⟨rfl,rfl,rfl,trivial⟩
  rintro _ _ u44 ⟨G38,X38AT,X38SD,b40,X38KX,rfl,rfl,f44_0,f44_1,f44_2,f44_3⟩ x44
  refine zn ?_
  refine zf [1,1,1,1,1] λGG51=>?_
  refine zn ?_
  refine Js.seq ?_
  refine zk [0,4,5] (λF U l os u=>∃ (G52:List Nat) (X52AT X52SD X52KX:Int),l=F []/\os=[anyO G52]++U [some (boxO bs [.slice As_0 c1c cs_0,.int .i64 X52AT,.int .u64 X52SD] 141),nO,some (rowO 2 1 (.slice (some ⟨b40,0,none⟩) (((M.startP r).stores).length) c5) (((M.startP r).stores).length) (ints_ ((((M.startP r).stores).set 0 X38KX).set 1 X52KX)) [])]/\(X38AT<=X52AT)/\(X52AT<=X38AT + 2)/\(0<=X52KX)/\(X52KX=0\/X52KX < 8)) ?_ ?_
  ·refine zdr [3,5] ?_
   refine jF 0 a0z rfl rfl ?_
   refine jM 2 rfl rfl ?_
   refine y2 1 3 ?_ ?_
   ·refine JHo.q rfl (a0c ty_26.h rfl (Mem.box (i:=1) rfl rfl)) ?_
    refine y1 3 ?_
    refine yBB 1 sp_ rfl rfl (λw hb _ hw=>zq0 c1c X38AT X38SD 8 hb (ok_ hw)) ?_
    rintro _ _ G57 ⟨X57KX,X57AT,X57SD,rfl,rfl,hX57_0,hX57_1,hX57_2,hX57_3⟩
    refine znh ?_
    refine jI 4 el_26 rfl rfl rfl rfl ?_
    refine y1 5 ?_
    refine JHo.s rfl (a0i (i:=3) (xs':=ints_ ((((M.startP r).stores).set 0 X38KX).set 1 X57KX)) ty_2.h rfl rfl rfl rfl rfl rfl (a0q (i:=1) (by first|omega|(simp only[List.length_set,M.a0h];omega))) (a0m (i:=1) (by first|omega|(simp only[List.length_set,M.a0h];omega)))) (.inr rfl) ?_
    rintro _ _ _ ⟨rfl,rfl⟩ _
    refine znh ?_
    refine yd ?_
    refine zh [1,0,0,0,0,0,0] ?_
    exact zm ⟨_,_,_,_,rfl,rfl,zt,zt,zt,zt⟩ (Up.refl _ _) ⟨rfl,rfl,rfl,trivial⟩
   refine yBB 1 sp_ rfl rfl (λw hb _ hw=>zq0 c1c X38AT X38SD 8 hb (ok_ hw)) ?_
   rintro _ _ G59 ⟨X59KX,X59AT,X59SD,rfl,rfl,hX59_0,hX59_1,hX59_2,hX59_3⟩
   refine znh ?_
   refine y1 1 ?_
   refine JHo.q rfl (a0c ty_26.h rfl (Mem.box (i:=2) rfl rfl)) ?_
   refine jI 4 el_26 rfl rfl rfl rfl ?_
   refine y1 5 ?_
   refine JHo.s rfl (a0i (i:=3) (xs':=ints_ ((((M.startP r).stores).set 0 X38KX).set 1 X59KX)) ty_2.h rfl rfl rfl rfl rfl rfl (a0q (i:=1) (by first|omega|(simp only[List.length_set,M.a0h];omega))) (a0m (i:=1) (by first|omega|(simp only[List.length_set,M.a0h];omega)))) (.inr rfl) ?_
   rintro _ _ _ ⟨rfl,rfl⟩ _
   refine znh ?_
   refine yd ?_
   refine zh [1,0,0,0,0,0,0] ?_
   exact zm ⟨_,_,_,_,rfl,rfl,zt,zt,zt,zt⟩ (Up.refl _ _) ⟨rfl,rfl,rfl,trivial⟩
  rintro _ _ u56 ⟨G52,X52AT,X52SD,X52KX,rfl,rfl,f56_0,f56_1,f56_2,f56_3⟩ x56
  refine zn ?_
  refine zf [1,1,1,1,1] λGG61=>?_
  refine zn ?_
  refine zS<|Qm rfl<|zBB 1 sp_ rfl (λw hb _ hw=>zq0 c1c X52AT X52SD 2 hb (ok_ hw)) ?_
  rintro _ _ G62 ⟨X62KX,X62AT,X62SD,rfl,rfl,hX62_0,hX62_1,hX62_2,hX62_3⟩
  refine znl ?_
  refine Qf fh rfl<|zw 2 rfl rfl rfl ?_
  refine JL.nil ?_
  refine zf [0,1,1,1,1] λGG63=>?_
  refine zn ?_
  refine zS<|Q9 1 rfl rfl ?_
  refine zw 4 rfl rfl rfl ?_
  refine JL.nil ?_
  refine zf [0,1,1,1] λGG64=>?_
  refine zn ?_
  refine zrb [0,1,0] hb (((x9.trans x34).trans x44).trans x56) ?_
  have hNr0:ys.length=((M.startP r).pits).length:=by first|rfl|assumption|omega|(simp only[List.length_set,M.a0h];done)|(simp only[List.length_set,M.a0h];first|rfl|assumption|omega)
  have hNr1:((((M.startP r).stores).set 0 X38KX).set 1 X52KX).length=((M.startP r).stores).length:=by first|rfl|assumption|omega|(simp only[List.length_set,M.a0h];done)|(simp only[List.length_set,M.a0h];first|rfl|assumption|omega)
  refine⟨((M.Pos.mk ys ((((M.startP r).stores).set 0 X38KX).set 1 X52KX) X62KX)),(X62AT),(X62SD),A4,c4,[],(some ⟨b40,0,none⟩),c5,[],(show(.agg #[.slice A4 (((M.startP r).pits).length) c4,.slice (some ⟨b40,0,none⟩) (((M.startP r).stores).length) c5,.int .i64 X62KX]:Value)=.agg #[.slice A4 ys.length c4,.slice (some ⟨b40,0,none⟩) ((((M.startP r).stores).set 0 X38KX).set 1 X52KX).length c5,.int .i64 X62KX] by rw[hNr0,hNr1]), ?_, ?_, ?_, ?_, ?_,by first|trivial|omega|exact M.a2y r3 (by omega) hLe (by omega) (by omega) (by omega) (by omega) (by omega)|exact M.a2y r3 (by omega) hLy (by omega) (by omega) (by omega) (by omega) (by omega),by first|trivial|omega|exact M.a2y r3 (by omega) hLe (by omega) (by omega) (by omega) (by omega) (by omega)|exact M.a2y r3 (by omega) hLy (by omega) (by omega) (by omega) (by omega) (by omega),by first|trivial|omega|exact M.a2y r3 (by omega) hLe (by omega) (by omega) (by omega) (by omega) (by omega)|exact M.a2y r3 (by omega) hLy (by omega) (by omega) (by omega) (by omega) (by omega)⟩
  · first|rfl|(dsimp only;rw[hNr0,hNr1];done)|(dsimp only;rw[hNr0,hNr1];rfl)|(dsimp only;simp only[hNr0,hNr1])|(rw[hNr0,hNr1];done)|(rw[hNr0,hNr1];rfl)
  all_goals (try dsimp only)
  all_goals (first|(rw[hNr0,hNr1];omega)|omega|(simp only[*];omega)|(simp;done))
 refine Js.skip<|Js.seq ?_
 refine zk [0,4,5] (λF U l os u=>∃ (G65:List Nat) (X65AT X65SD:Int) (b67:Nat) (X65KX:Int),l=F []/\os=[anyO G65]++U [some (boxO bs [.slice As_0 c1c cs_0,.int .i64 X65AT,.int .u64 X65SD] 141),some (boxO b6 [.slice A4 (((M.startP r).pits).length) c4,.slice (some ⟨b67,0,none⟩) (((M.startP r).stores).length) c5,.int .i64 ((M.startP r).player)] 28),some (rowO 2 1 (.slice (some ⟨b67,0,none⟩) (((M.startP r).stores).length) c5) (((M.startP r).stores).length) (ints_ (((M.startP r).stores).set 0 X65KX)) [])]/\(X29AT<=X65AT)/\(X65AT<=X29AT + 2)/\(0<=X65KX)/\(X65KX=0\/X65KX < 8)) ?_ ?_
 ·refine zdr [3,5] ?_
  refine jF 0 a0z rfl rfl ?_
  refine jM 2 rfl rfl ?_
  refine y2 1 3 ?_ ?_
  ·refine JHo.q rfl (a0c ty_26.h rfl (Mem.box (i:=1) rfl rfl)) ?_
   refine y1 3 ?_
   refine yBB 1 sp_ rfl rfl (λw hb _ hw=>zq0 c1c X29AT X29SD 8 hb (ok_ hw)) ?_
   rintro _ _ G72 ⟨X72KX,X72AT,X72SD,rfl,rfl,hX72_0,hX72_1,hX72_2,hX72_3⟩
   refine znh ?_
   refine JH.fact (a0s (i:=3) rfl (by omega)) (λhf74=>?_)
   obtain⟨b74,rfl⟩:=hf74
   refine jI 4 el_26 rfl rfl rfl rfl ?_
   refine y1 5 ?_
   refine JHo.s rfl (a0i (i:=3) (xs':=ints_ (((M.startP r).stores).set 0 X72KX)) ty_2.h rfl rfl rfl rfl rfl rfl (a0q (i:=0) (by omega)) (a0m (i:=0) (by omega))) (.inr rfl) ?_
   rintro _ _ _ ⟨rfl,rfl⟩ _
   refine znh ?_
   refine yd ?_
   refine zh [1,0,0,0,0,0,0] ?_
   exact zm ⟨_,_,_,_,_,rfl,rfl,zt,zt,zt,zt⟩ (Up.refl _ _) ⟨rfl,rfl,rfl,trivial⟩
  refine yBB 1 sp_ rfl rfl (λw hb _ hw=>zq0 c1c X29AT X29SD 8 hb (ok_ hw)) ?_
  rintro _ _ G75 ⟨X75KX,X75AT,X75SD,rfl,rfl,hX75_0,hX75_1,hX75_2,hX75_3⟩
  refine znh ?_
  refine y1 1 ?_
  refine JHo.q rfl (a0c ty_26.h rfl (Mem.box (i:=2) rfl rfl)) ?_
  refine JH.fact (a0s (i:=3) rfl (by omega)) (λhf77=>?_)
  obtain⟨b77,rfl⟩:=hf77
  refine jI 4 el_26 rfl rfl rfl rfl ?_
  refine y1 5 ?_
  refine JHo.s rfl (a0i (i:=3) (xs':=ints_ (((M.startP r).stores).set 0 X75KX)) ty_2.h rfl rfl rfl rfl rfl rfl (a0q (i:=0) (by omega)) (a0m (i:=0) (by omega))) (.inr rfl) ?_
  rintro _ _ _ ⟨rfl,rfl⟩ _
  refine znh ?_
  refine yd ?_
  refine zh [1,0,0,0,0,0,0] ?_
  exact zm ⟨_,_,_,_,_,rfl,rfl,zt,zt,zt,zt⟩ (Up.refl _ _) ⟨rfl,rfl,rfl,trivial⟩
 rintro _ _ u71 ⟨G65,X65AT,X65SD,b67,X65KX,rfl,rfl,f71_0,f71_1,f71_2,f71_3⟩ x71
 refine zn ?_
 refine zf [1,1,1,1,1] λGG78=>?_
 refine zn ?_
 refine Js.seq ?_
 refine zk [0,4,5] (λF U l os u=>∃ (G79:List Nat) (X79AT X79SD X79KX:Int),l=F []/\os=[anyO G79]++U [some (boxO bs [.slice As_0 c1c cs_0,.int .i64 X79AT,.int .u64 X79SD] 141),nO,some (rowO 2 1 (.slice (some ⟨b67,0,none⟩) (((M.startP r).stores).length) c5) (((M.startP r).stores).length) (ints_ ((((M.startP r).stores).set 0 X65KX).set 1 X79KX)) [])]/\(X65AT<=X79AT)/\(X79AT<=X65AT + 2)/\(0<=X79KX)/\(X79KX=0\/X79KX < 8)) ?_ ?_
 ·refine zdr [3,5] ?_
  refine jF 0 a0z rfl rfl ?_
  refine jM 2 rfl rfl ?_
  refine y2 1 3 ?_ ?_
  ·refine JHo.q rfl (a0c ty_26.h rfl (Mem.box (i:=1) rfl rfl)) ?_
   refine y1 3 ?_
   refine yBB 1 sp_ rfl rfl (λw hb _ hw=>zq0 c1c X65AT X65SD 8 hb (ok_ hw)) ?_
   rintro _ _ G84 ⟨X84KX,X84AT,X84SD,rfl,rfl,hX84_0,hX84_1,hX84_2,hX84_3⟩
   refine znh ?_
   refine jI 4 el_26 rfl rfl rfl rfl ?_
   refine y1 5 ?_
   refine JHo.s rfl (a0i (i:=3) (xs':=ints_ ((((M.startP r).stores).set 0 X65KX).set 1 X84KX)) ty_2.h rfl rfl rfl rfl rfl rfl (a0q (i:=1) (by first|omega|(simp only[List.length_set,M.a0h];omega))) (a0m (i:=1) (by first|omega|(simp only[List.length_set,M.a0h];omega)))) (.inr rfl) ?_
   rintro _ _ _ ⟨rfl,rfl⟩ _
   refine znh ?_
   refine yd ?_
   refine zh [1,0,0,0,0,0,0] ?_
   exact zm ⟨_,_,_,_,rfl,rfl,zt,zt,zt,zt⟩ (Up.refl _ _) ⟨rfl,rfl,rfl,trivial⟩
  refine yBB 1 sp_ rfl rfl (λw hb _ hw=>zq0 c1c X65AT X65SD 8 hb (ok_ hw)) ?_
  rintro _ _ G86 ⟨X86KX,X86AT,X86SD,rfl,rfl,hX86_0,hX86_1,hX86_2,hX86_3⟩
  refine znh ?_
  refine y1 1 ?_
  refine JHo.q rfl (a0c ty_26.h rfl (Mem.box (i:=2) rfl rfl)) ?_
  refine jI 4 el_26 rfl rfl rfl rfl ?_
  refine y1 5 ?_
  refine JHo.s rfl (a0i (i:=3) (xs':=ints_ ((((M.startP r).stores).set 0 X65KX).set 1 X86KX)) ty_2.h rfl rfl rfl rfl rfl rfl (a0q (i:=1) (by first|omega|(simp only[List.length_set,M.a0h];omega))) (a0m (i:=1) (by first|omega|(simp only[List.length_set,M.a0h];omega)))) (.inr rfl) ?_
  rintro _ _ _ ⟨rfl,rfl⟩ _
  refine znh ?_
  refine yd ?_
  refine zh [1,0,0,0,0,0,0] ?_
  exact zm ⟨_,_,_,_,rfl,rfl,zt,zt,zt,zt⟩ (Up.refl _ _) ⟨rfl,rfl,rfl,trivial⟩
 rintro _ _ u83 ⟨G79,X79AT,X79SD,X79KX,rfl,rfl,f83_0,f83_1,f83_2,f83_3⟩ x83
 refine zn ?_
 refine zf [1,1,1,1,1] λGG88=>?_
 refine zn ?_
 refine zS<|Qm rfl<|zBB 1 sp_ rfl (λw hb _ hw=>zq0 c1c X79AT X79SD 2 hb (ok_ hw)) ?_
 rintro _ _ G89 ⟨X89KX,X89AT,X89SD,rfl,rfl,hX89_0,hX89_1,hX89_2,hX89_3⟩
 refine znl ?_
 refine Qf fh rfl<|zw 2 rfl rfl rfl ?_
 refine JL.nil ?_
 refine zf [0,1,1,1,1] λGG90=>?_
 refine zn ?_
 refine zS<|Q9 1 rfl rfl ?_
 refine zw 4 rfl rfl rfl ?_
 refine JL.nil ?_
 refine zf [0,1,1,1] λGG91=>?_
 refine zn ?_
 refine zrb [0,1,0] hb ((x9.trans x71).trans x83) ?_
 have hNr0:xs.length=((M.startP r).pits).length:=by first|rfl|assumption|omega|(simp only[List.length_set,M.a0h];done)|(simp only[List.length_set,M.a0h];first|rfl|assumption|omega)
 have hNr1:((((M.startP r).stores).set 0 X65KX).set 1 X79KX).length=((M.startP r).stores).length:=by first|rfl|assumption|omega|(simp only[List.length_set,M.a0h];done)|(simp only[List.length_set,M.a0h];first|rfl|assumption|omega)
 refine⟨((M.Pos.mk xs ((((M.startP r).stores).set 0 X65KX).set 1 X79KX) X89KX)),(X89AT),(X89SD),A4,c4,[],(some ⟨b67,0,none⟩),c5,[],(show(.agg #[.slice A4 (((M.startP r).pits).length) c4,.slice (some ⟨b67,0,none⟩) (((M.startP r).stores).length) c5,.int .i64 X89KX]:Value)=.agg #[.slice A4 xs.length c4,.slice (some ⟨b67,0,none⟩) ((((M.startP r).stores).set 0 X65KX).set 1 X79KX).length c5,.int .i64 X89KX] by rw[hNr0,hNr1]), ?_, ?_, ?_, ?_, ?_,by first|trivial|omega|exact M.a2y r3 (by omega) hLe (by omega) (by omega) (by omega) (by omega) (by omega)|exact M.a2y r3 (by omega) hLy (by omega) (by omega) (by omega) (by omega) (by omega),by first|trivial|omega|exact M.a2y r3 (by omega) hLe (by omega) (by omega) (by omega) (by omega) (by omega)|exact M.a2y r3 (by omega) hLy (by omega) (by omega) (by omega) (by omega) (by omega),by first|trivial|omega|exact M.a2y r3 (by omega) hLe (by omega) (by omega) (by omega) (by omega) (by omega)|exact M.a2y r3 (by omega) hLy (by omega) (by omega) (by omega) (by omega) (by omega)⟩
 · first|rfl|(dsimp only;rw[hNr0,hNr1];done)|(dsimp only;rw[hNr0,hNr1];rfl)|(dsimp only;simp only[hNr0,hNr1])|(rw[hNr0,hNr1];done)|(rw[hNr0,hNr1];rfl)
 all_goals (try dsimp only)
 all_goals (first|(rw[hNr0,hNr1];omega)|omega|(simp only[*];omega)|(simp;done))
theorem zq90(c1c:Nat)(s_at s_seed:Int){As_0:Option Addr}{cs_0:Nat}(most:Int){bs:Nat}{w:World}(hb:Bw w [boxO bs [.slice As_0 c1c cs_0,.int .i64 s_at,.int .u64 s_seed] 141])(hps_0:(Ty.bytes 5 c1c).ok (offW w (([boxO bs [.slice As_0 c1c cs_0,.int .i64 s_at,.int .u64 s_seed] 141]:List Own).flatMap (·.fp))) (.slice As_0 c1c cs_0))(r0:0<=s_at:=by exact om_)(r1:s_at<=999999000:=by exact om_)(r2:c1c<=1048576:=by exact om_)(r3:0<=most:=by exact om_)(r4:most<=20:=by exact om_):RetB Tryz.prog 121 [.pointer (some ⟨bs,0,none⟩),.int .i64 most] w [boxO bs [.slice As_0 c1c cs_0,.int .i64 s_at,.int .u64 s_seed] 141] (λv bs'=>∃ (GX:M.Gam) (AT SD:Int) (Axr_9:Option Addr) (cxr_9:Nat) (gxr_9:List Nat) (Axr_10:Option Addr) (cxr_10:Nat) (gxr_10:List Nat) (Axr_12:Option Addr) (cxr_12:Nat) (gxr_12:List Nat) (Axr_13:Option Addr) (cxr_13:Nat) (gxr_13:List Nat) (Axr_14:Option Addr) (cxr_14:Nat) (gxr_14:List Nat),v=.agg #[.int .i64 GX.rules.pits,.int .i64 GX.rules.seeds,.bool GX.rules.stores,.bool GX.rules.skip,.bool GX.rules.relay,.bool GX.rules.feed,.bool GX.rules.again,.int .i64 GX.rules.capture,.int .i64 GX.rules.slam,.slice Axr_9 GX.start.pits.length cxr_9,.slice Axr_10 GX.start.stores.length cxr_10,.int .i64 GX.start.player,.slice Axr_12 GX.moves.length cxr_12,.slice Axr_13 GX.now.pits.length cxr_13,.slice Axr_14 GX.now.stores.length cxr_14,.int .i64 GX.now.player,.int .i64 GX.resigned]/\bs'=[boxO bs [.slice As_0 c1c cs_0,.int .i64 AT,.int .u64 SD] 141,rowO 2 1 (.slice Axr_9 GX.start.pits.length cxr_9) GX.start.pits.length (ints_ GX.start.pits) gxr_9,rowO 2 1 (.slice Axr_10 GX.start.stores.length cxr_10) GX.start.stores.length (ints_ GX.start.stores) gxr_10,rowO 2 1 (.slice Axr_12 GX.moves.length cxr_12) GX.moves.length (ints_ GX.moves) gxr_12,rowO 2 1 (.slice Axr_13 GX.now.pits.length cxr_13) GX.now.pits.length (ints_ GX.now.pits) gxr_13,rowO 2 1 (.slice Axr_14 GX.now.stores.length cxr_14) GX.now.stores.length (ints_ GX.now.stores) gxr_14]/\GX.start.pits.length<=cxr_9/\cxr_9<=9223372036854775807/\GX.start.stores.length<=cxr_10/\cxr_10<=9223372036854775807/\GX.moves.length<=cxr_12/\cxr_12<=9223372036854775807/\GX.now.pits.length<=cxr_13/\cxr_13<=9223372036854775807/\GX.now.stores.length<=cxr_14/\cxr_14<=9223372036854775807/\(M.okG GX=true)/\(s_at<=AT)/\(AT<=s_at + 1000)):=by
 refine enterB hb @Tryz.func121 @Tryz.ntmps121 rfl rfl ?_
 refine zent ?_
 refine Js.trashE ?_
 refine zn ?_
 refine zS<|za zeh λb1=>zN<|Qm rfl ?_
 refine zhl [1] ?_
 refine zBB 1 sp_ rfl (λw hb _ hw=>zq88 c1c s_at s_seed hb (ok_ hw)) ?_
 rintro _ _ G2 ⟨X2RX,X2AT,X2SD,rfl,rfl,hX2_0,hX2_1,hX2_2⟩
 refine znl ?_
 refine za zeh λb3=>zw 0 rfl rfl rfl ?_
 refine JL.nil ?_
 refine zf [0,0,1] λGG4=>?_
 refine zn ?_
 refine Js.seq<|zS<|Qm rfl ?_
 refine zhl [1] ?_
 refine zBB 1 sp_ rfl (λw hb _ hw=>zq1 c1c X2AT X2SD 2 hb (ok_ hw)) ?_
 rintro _ _ G5 ⟨X5BX,X5AT,X5SD,rfl,rfl,hX5_0,hX5_1⟩
 refine znl ?_
 refine JL.nil ?_
 refine zf [0,1,1] λGG6=>?_
 refine zn ?_
 refine zk [0,1,4,5] (λF U l os u=>∃ (rr:M.Rul) (at2 sd2:Int) (G7_3:List Nat),l=F []/\os=U [some (boxO bs [.slice As_0 c1c cs_0,.int .i64 at2,.int .u64 sd2] 141),some (boxO b3 [.int .i64 rr.pits,.int .i64 rr.seeds,.bool rr.stores,.bool rr.skip,.bool rr.relay,.bool rr.feed,.bool rr.again,.int .i64 rr.capture,.int .i64 rr.slam] 25),nO,some (anyO G7_3)]/\(M.okR rr=true)/\(s_at<=at2)/\(at2<=s_at + 50)) ?_ ?_
 ·refine zi (λh8 h8'=>?_) λh8 h8'=>?_
  ·refine Js.region<|Qm rfl<|zp rfl (λw hw=>zq18) ?_
   intro u9 x9 A10 c10 h10 bl10 bh10
   refine zBB 1 sp_ rfl (λw hb _ hw=>zq19 c1c X5AT X5SD M.stdNames hb (ok_ hw) (ok_ hw) (r3:=(by decide)) (r4:=(by decide))) ?_
   rintro _ _ G11 ⟨X11TX,X11AT,X11SD,rfl,rfl,hX11_0,hX11_1,hX11_2⟩
   refine znl ?_
   refine zp rfl (λw hw=>zq46 X11TX (r0:=(by assumption))) ?_
   intro u12 x12 X13 hX13 X14 hX14
   refine Qm rfl<|Qx rfl rfl<|Qx rfl rfl<|zw 2 rfl rfl rfl ?_
   refine JL.nil ?_
   refine zf [0,1,1] λGG15=>?_
   refine zn ?_
   exact zm ⟨(X13),(X11AT),(X11SD),_,rfl,rfl,by first|assumption|omega|rfl|(dsimp only;omega)|(simp;done),by first|assumption|omega|rfl|(dsimp only;omega)|(simp;done),by first|assumption|omega|rfl|(dsimp only;omega)|(simp;done)⟩ (x9.trans x12)
  refine Js.skip ?_
  exact zm ⟨(X2RX),(X5AT),(X5SD),_,rfl,rfl,by first|assumption|omega|rfl|(dsimp only;omega)|(simp;done),by first|assumption|omega|rfl|(dsimp only;omega)|(simp;done),by first|assumption|omega|rfl|(dsimp only;omega)|(simp;done)⟩ (Up.refl _ _)
 rintro _ _ u7 ⟨rr,at2,sd2,G7_3,rfl,rfl,hr9,hb0,hb1⟩ x7
 refine zn ?_
 refine zS<|zc rfl (λw hw=>zq20 rr (ok_ hw) (r0:=(by obtain⟨q1,q2,_⟩:=M.a6q hr9;omega)) (r1:=(by obtain⟨q1,q2,_⟩:=M.a6q hr9;omega))) ?_
 intro A17 c17 bl17 bh17 A18 c18 bl18 bh18
 refine za zeh λb19=>zw 0 rfl rfl rfl ?_
 refine zJ<|zS<|Qm rfl ?_
 refine zhl [3] ?_
 refine zBB 1 sp_ rfl (λw hb _ hw=>zq1 c1c at2 sd2 3 hb (ok_ hw)) ?_
 rintro _ _ G20 ⟨X20BX,X20AT,X20SD,rfl,rfl,hX20_0,hX20_1⟩
 refine znl ?_
 refine JL.nil ?_
 refine zf [0,1,1,1,1,1] λGG21=>?_
 refine zn ?_
 refine zk [0,1,4,5,6] (λF U l os u=>∃ (pp:M.Pos) (at3 sd3:Int) (A22_6_0:Option Addr) (c22_6_0:Nat) (g22_6_0:List Nat) (A22_6_1:Option Addr) (c22_6_1:Nat) (g22_6_1:List Nat) (G22_6:List Nat),l=F []/\os=U [some (boxO bs [.slice As_0 c1c cs_0,.int .i64 at3,.int .u64 sd3] 141),some (boxO b19 [.slice A22_6_0 pp.pits.length c22_6_0,.slice A22_6_1 pp.stores.length c22_6_1,.int .i64 pp.player] 28),some (rowO 2 1 (.slice A22_6_1 pp.stores.length c22_6_1) pp.stores.length (ints_ pp.stores) g22_6_1),some (rowO 2 1 (.slice A22_6_0 pp.pits.length c22_6_0) pp.pits.length (ints_ pp.pits) g22_6_0),nO,nO,some (anyO G22_6)]/\(M.okP rr pp=true)/\(s_at<=at3)/\(at3<=s_at + 270)/\(pp.pits.length<=c22_6_0)/\(c22_6_0<=9223372036854775807)/\(pp.stores.length<=c22_6_1)/\(c22_6_1<=9223372036854775807)) ?_ ?_
 ·refine zi (λh23 h23'=>?_) λh23 h23'=>?_
  ·refine Js.region<|Qm rfl<|zBB 1 sp_ rfl (λw hb _ hw=>zq89 c1c X20AT X20SD rr hb (ok_ hw) (ok_ hw) (r3:=hr9)) ?_
   rintro _ _ G24 ⟨X24PX,X24AT,X24SD,A24r_0,c24r_0,g24r_0,A24r_1,c24r_1,g24r_1,rfl,rfl,bl24_0,bl24_1,bl24_2,bl24_3,hX24_0,hX24_1,hX24_2⟩
   refine znl ?_
   refine zw 4 rfl rfl rfl ?_
   refine JL.nil ?_
   refine zf [0,0,0,1,1,1,1,1] λGG25=>?_
   refine zn ?_
   refine zf [0,2,1,0,2,2] λGG26=>?_
   refine zn ?_
   exact zm ⟨(X24PX),(X24AT),(X24SD),_,_,_,_,_,_,_,rfl,rfl,by first|assumption|exact M.b5d hr9,by first|assumption|omega|rfl|(dsimp only;omega)|(simp;done),by first|assumption|omega|rfl|(dsimp only;omega)|(simp;done),by first|assumption|omega|rfl|(dsimp only;omega)|(simp;done),by first|assumption|omega|rfl|(dsimp only;omega)|(simp;done),by first|assumption|omega|rfl|(dsimp only;omega)|(simp;done),by first|assumption|omega|rfl|(dsimp only;omega)|(simp;done)⟩ (Up.refl _ _)
  refine Js.skip ?_
  exact zm ⟨((M.startP rr)),(X20AT),(X20SD),_,_,_,_,_,_,_,rfl,rfl,by first|assumption|exact M.b5d hr9,by first|assumption|omega|rfl|(dsimp only;omega)|(simp;done),by first|assumption|omega|rfl|(dsimp only;omega)|(simp;done),by first|assumption|omega|rfl|(dsimp only;omega)|(simp;done),by first|assumption|omega|rfl|(dsimp only;omega)|(simp;done),by first|assumption|omega|rfl|(dsimp only;omega)|(simp;done),by first|assumption|omega|rfl|(dsimp only;omega)|(simp;done)⟩ (Up.refl _ _)
 rintro _ _ u22 ⟨pp,at3,sd3,A22_6_0,c22_6_0,g22_6_0,A22_6_1,c22_6_1,g22_6_1,G22_6,rfl,rfl,hp9,hc0,hc1,f22_3,f22_4,f22_5,f22_6⟩ x22
 refine zn ?_
 refine zS<|zc rfl (λw hw=>zq14 rr pp (ok_ hw) (ok_ hw) (r0:=(by obtain⟨_,q2,q3,q4,_⟩:=M.a0y hp9;omega)) (r1:=(by obtain⟨_,q2,q3,q4,_⟩:=M.a0y hp9;omega))) ?_
 intro A28 c28 bl28 bh28 A29 c29 bl29 bh29 A30 c30 bl30 bh30 A31 c31 bl31 bh31 A32 c32 bl32 bh32
 refine za zeh λb33=>zw 0 rfl rfl rfl ?_
 refine JL.nil ?_
 refine zf [0,0,0,0,0,0,0,4] λGG34=>?_
 refine zn ?_
 refine Js.seq<|zS<|Qm rfl<|Qm rfl<|Qp rfl rfl ?_
 refine zhl [6] ?_
 refine zBB 1 sp_ rfl (λw hb _ hw=>zq0 c1c at3 sd3 (most + 1) hb (ok_ hw)) ?_
 rintro _ _ G35 ⟨X35KX,X35AT,X35SD,rfl,rfl,hX35_0,hX35_1,hX35_2,hX35_3⟩
 refine znl ?_
 refine Qa rfl<|JL.nil ?_
 refine zf [0,1,1,1,1,1,1,1] λGG36=>?_
 refine zn ?_
 refine Js.block ?_
 refine zl [0,4,7] (λF U l os u m=>∃ (j at1 sd1:Int) (gk:M.Gam) (A37_7_9:Option Addr) (c37_7_9:Nat) (g37_7_9:List Nat) (A37_7_10:Option Addr) (c37_7_10:Nat) (g37_7_10:List Nat) (A37_7_12:Option Addr) (c37_7_12:Nat) (g37_7_12:List Nat) (A37_7_13:Option Addr) (c37_7_13:Nat) (g37_7_13:List Nat) (A37_7_14:Option Addr) (c37_7_14:Nat) (g37_7_14:List Nat) (G37_8:List Nat),l=F [(8,.int .i64 j)]/\os=U [some (boxO bs [.slice As_0 c1c cs_0,.int .i64 at1,.int .u64 sd1] 141),some (boxO b33 [.int .i64 gk.rules.pits,.int .i64 gk.rules.seeds,.bool gk.rules.stores,.bool gk.rules.skip,.bool gk.rules.relay,.bool gk.rules.feed,.bool gk.rules.again,.int .i64 gk.rules.capture,.int .i64 gk.rules.slam,.slice A37_7_9 gk.start.pits.length c37_7_9,.slice A37_7_10 gk.start.stores.length c37_7_10,.int .i64 gk.start.player,.slice A37_7_12 gk.moves.length c37_7_12,.slice A37_7_13 gk.now.pits.length c37_7_13,.slice A37_7_14 gk.now.stores.length c37_7_14,.int .i64 gk.now.player,.int .i64 gk.resigned] 53),some (rowO 2 1 (.slice A37_7_14 gk.now.stores.length c37_7_14) gk.now.stores.length (ints_ gk.now.stores) g37_7_14),some (rowO 2 1 (.slice A37_7_13 gk.now.pits.length c37_7_13) gk.now.pits.length (ints_ gk.now.pits) g37_7_13),some (rowO 2 1 (.slice A37_7_12 gk.moves.length c37_7_12) gk.moves.length (ints_ gk.moves) g37_7_12),some (rowO 2 1 (.slice A37_7_10 gk.start.stores.length c37_7_10) gk.start.stores.length (ints_ gk.start.stores) g37_7_10),some (rowO 2 1 (.slice A37_7_9 gk.start.pits.length c37_7_9) gk.start.pits.length (ints_ gk.start.pits) g37_7_9),nO,some (anyO G37_8)]/\(0<=j/\j<=21)/\(s_at<=at1)/\(at1 + 2 * j<=s_at + 400)/\(M.okG gk=true)/\(gk.start.pits.length<=c37_7_9)/\(c37_7_9<=9223372036854775807)/\(gk.start.stores.length<=c37_7_10)/\(c37_7_10<=9223372036854775807)/\(gk.moves.length<=c37_7_12)/\(c37_7_12<=9223372036854775807)/\(gk.now.pits.length<=c37_7_13)/\(c37_7_13<=9223372036854775807)/\(gk.now.stores.length<=c37_7_14)/\(c37_7_14<=9223372036854775807)/\m=j.toNat) ⟨X35KX,X35AT,X35SD,(M.Gam.mk rr pp [] pp (-1)),_,_,_,_,_,_,_,_,_,_,_,_,_,_,_,_,rfl,rfl,zt,zt,zt,by exact M.b3w hp9,zu,zu,zu,zu,zu,zu,zu,zu,zu,zu,rfl⟩ ?_
 rintro _ _ u37 _ ⟨j,at1,sd1,gk,A37_7_9,c37_7_9,g37_7_9,A37_7_10,c37_7_10,g37_7_10,A37_7_12,c37_7_12,g37_7_12,A37_7_13,c37_7_13,g37_7_13,A37_7_14,c37_7_14,g37_7_14,G37_8,rfl,rfl,hj,ha0,ha1,hg,f37_4,f37_5,f37_6,f37_7,f37_8,f37_9,f37_10,f37_11,f37_12,f37_13,rfl⟩ x37
 refine zn ?_
 obtain⟨gb1,gb2,gb3,gb4,gb5⟩:=M.b4l hg
 refine Js.seq<|zS<|Qm rfl<|Qg rfl rfl<|JL.nil ?_
 refine zi (λh38 h38'=>?_) λh38 h38'=>?_
 ·refine Js.skip<|Js.seq<|Js.block<|zS<|Qm rfl<|zBB 1 sp_ rfl (λw hb _ hw=>zq47 c1c at1 sd1 gk hb (ok_ hw) (ok_ hw)) ?_
  rintro _ _ G39 ⟨X39KX,X39AT,X39SD,rfl,rfl,hX39_0,hX39_1⟩
  refine znl ?_
  refine Qa rfl<|JL.nil ?_
  refine zf [0,1,1,1,1,1,1,1] λGG40=>?_
  refine zn ?_
  refine Js.seq<|zS<|Qm rfl<|Ql rfl rfl<|JL.nil ?_
  refine zi (λh41 h41'=>?_) λh41 h41'=>?_
  ·refine zx ?_
   refine Js.seq<|zS<|Qm rfl<|zBB 1 sp_ rfl (λw hb _ hw=>zq1 c1c X39AT X39SD 10 hb (ok_ hw)) ?_
   rintro _ _ G42 ⟨X42BX,X42AT,X42SD,rfl,rfl,hX42_0,hX42_1⟩
   refine znl ?_
   refine JL.nil ?_
   refine zf [0,1,1,1,1,1,1,1] λGG43=>?_
   refine zn ?_
   refine zi (λh44 h44'=>?_) λh44 h44'=>?_
   ·refine Js.region<|Qm rfl<|zBB 1 sp_ rfl (λw hb _ hw=>zq0 c1c X42AT X42SD 2 hb (ok_ hw)) ?_
    rintro _ _ G45 ⟨X45KX,X45AT,X45SD,rfl,rfl,hX45_0,hX45_1,hX45_2,hX45_3⟩
    refine znl ?_
    refine Qf fh rfl<|zw 2 rfl rfl rfl ?_
    refine JL.nil ?_
    refine zf [0,1,1,1,1,1,1,1] λGG46=>?_
    refine zn ?_
    refine zS<|Q9 1 rfl rfl ?_
    refine zw 7 rfl rfl rfl ?_
    refine JL.nil ?_
    refine zf [0,1,1,1,1,1,1] λGG47=>?_
    refine zn ?_
    refine zrb [0,4,3,2,1,0] hb ((x7.trans x22).trans x37) ?_
    refine⟨((M.Gam.mk gk.rules gk.start gk.moves gk.now X45KX)),(X45AT),(X45SD),A37_7_9,c37_7_9,g37_7_9,A37_7_10,c37_7_10,g37_7_10,A37_7_12,c37_7_12,g37_7_12,A37_7_13,c37_7_13,g37_7_13,A37_7_14,c37_7_14,g37_7_14,rfl, ?_, ?_, ?_, ?_, ?_, ?_, ?_, ?_, ?_, ?_, ?_,by first|trivial|exact hg|exact M.a2j hg (by omega) (by omega)|omega,by first|trivial|exact hg|exact M.a2j hg (by omega) (by omega)|omega,by first|trivial|exact hg|exact M.a2j hg (by omega) (by omega)|omega⟩
    · rfl
    all_goals (try dsimp only)
    all_goals (first|(omega)|omega|(simp only[*];omega)|(simp;done))
   refine Js.skip<|zS<|Q9 1 rfl rfl ?_
   refine zw 7 rfl rfl rfl ?_
   refine JL.nil ?_
   refine zf [0,1,1,1,1,1,1] λGG48=>?_
   refine zn ?_
   refine zrb [0,4,3,2,1,0] hb ((x7.trans x22).trans x37) ?_
   refine⟨(gk),(X42AT),(X42SD),A37_7_9,c37_7_9,g37_7_9,A37_7_10,c37_7_10,g37_7_10,A37_7_12,c37_7_12,g37_7_12,A37_7_13,c37_7_13,g37_7_13,A37_7_14,c37_7_14,g37_7_14,rfl, ?_, ?_, ?_, ?_, ?_, ?_, ?_, ?_, ?_, ?_, ?_,by first|trivial|exact hg|exact M.a2j hg (by omega) (by omega)|omega,by first|trivial|exact hg|exact M.a2j hg (by omega) (by omega)|omega,by first|trivial|exact hg|exact M.a2j hg (by omega) (by omega)|omega⟩
   · rfl
   all_goals (try dsimp only)
   all_goals (first|(omega)|omega|(simp only[*];omega)|(simp;done))
  refine Js.skip<|zS<|Qm rfl<|zc rfl (λw hw=>zq21 gk X39KX (ok_ hw)) ?_
  intro A51 c51 bl51 bh51 A52 c52 bl52 bh52 A53 c53 bl53 bh53 A54 c54 bl54 bh54 A55 c55 bl55 bh55
  refine Qm rfl<|Qx rfl rfl<|Qx rfl rfl<|za zeh λb56=>zw 0 rfl rfl rfl ?_
  refine Qa rfl<|zN<|Qm rfl<|Qe rfl rfl<|JL.nil ?_
  refine zi (λh57 h57'=>?_) λh57 h57'=>?_
  ·have hz:(M.play gk X39KX).2=0:=by simpa using h57
   refine Js.region<|Q9 0 rfl rfl ?_
   refine zw 7 rfl rfl rfl ?_
   refine JL.nil ?_
   refine zf [1,1,1,1,1,1,1,6] λGG58=>?_
   refine zn ?_
   refine Js.blockEnd<|Js.region<|Qm rfl<|Qs rfl rfl<|Qa rfl<|JL.nil ?_
   refine zf [5,5,0,0,0,0,0,0] λGG59=>?_
   refine zn ?_
   exact zag ⟨j - 1,X39AT,X39SD,((M.play gk X39KX).1),_,_,_,_,_,_,_,_,_,_,_,_,_,_,_,_,rfl,rfl,zt,zt,zt,by first|exact hg|exact M.b3p hg hz,zu,zu,zu,zu,zu,zu,zu,zu,zu,zu,rfl⟩ x37
  refine Js.skip<|Js.blockEnd<|Js.region<|Qm rfl<|Qs rfl rfl<|Qa rfl<|JL.nil ?_
  refine zf [6,6,6,6,6,6,6,6] λGG60=>?_
  refine zn ?_
  exact zag ⟨j - 1,X39AT,X39SD,gk,_,_,_,_,_,_,_,_,_,_,_,_,_,_,_,_,rfl,rfl,zt,zt,zt,by first|exact hg|exact M.b3p hg hz,zu,zu,zu,zu,zu,zu,zu,zu,zu,zu,rfl⟩ x37
 refine zx ?_
 refine Js.seq<|zS<|Qm rfl<|zBB 1 sp_ rfl (λw hb _ hw=>zq1 c1c at1 sd1 10 hb (ok_ hw)) ?_
 rintro _ _ G61 ⟨X61BX,X61AT,X61SD,rfl,rfl,hX61_0,hX61_1⟩
 refine znl ?_
 refine JL.nil ?_
 refine zf [0,1,1,1,1,1,1,1] λGG62=>?_
 refine zn ?_
 refine zi (λh63 h63'=>?_) λh63 h63'=>?_
 ·refine Js.region<|Qm rfl<|zBB 1 sp_ rfl (λw hb _ hw=>zq0 c1c X61AT X61SD 2 hb (ok_ hw)) ?_
  rintro _ _ G64 ⟨X64KX,X64AT,X64SD,rfl,rfl,hX64_0,hX64_1,hX64_2,hX64_3⟩
  refine znl ?_
  refine Qf fh rfl<|zw 2 rfl rfl rfl ?_
  refine JL.nil ?_
  refine zf [0,1,1,1,1,1,1,1] λGG65=>?_
  refine zn ?_
  refine zS<|Q9 1 rfl rfl ?_
  refine zw 7 rfl rfl rfl ?_
  refine JL.nil ?_
  refine zf [0,1,1,1,1,1,1] λGG66=>?_
  refine zn ?_
  refine zrb [0,4,3,2,1,0] hb ((x7.trans x22).trans x37) ?_
  refine⟨((M.Gam.mk gk.rules gk.start gk.moves gk.now X64KX)),(X64AT),(X64SD),A37_7_9,c37_7_9,g37_7_9,A37_7_10,c37_7_10,g37_7_10,A37_7_12,c37_7_12,g37_7_12,A37_7_13,c37_7_13,g37_7_13,A37_7_14,c37_7_14,g37_7_14,rfl, ?_, ?_, ?_, ?_, ?_, ?_, ?_, ?_, ?_, ?_, ?_,by first|trivial|exact hg|exact M.a2j hg (by omega) (by omega)|omega,by first|trivial|exact hg|exact M.a2j hg (by omega) (by omega)|omega,by first|trivial|exact hg|exact M.a2j hg (by omega) (by omega)|omega⟩
  · rfl
  all_goals (try dsimp only)
  all_goals (first|(omega)|omega|(simp only[*];omega)|(simp;done))
 refine Js.skip<|zS<|Q9 1 rfl rfl ?_
 refine zw 7 rfl rfl rfl ?_
 refine JL.nil ?_
 refine zf [0,1,1,1,1,1,1] λGG67=>?_
 refine zn ?_
 refine zrb [0,4,3,2,1,0] hb ((x7.trans x22).trans x37) ?_
 refine⟨(gk),(X61AT),(X61SD),A37_7_9,c37_7_9,g37_7_9,A37_7_10,c37_7_10,g37_7_10,A37_7_12,c37_7_12,g37_7_12,A37_7_13,c37_7_13,g37_7_13,A37_7_14,c37_7_14,g37_7_14,rfl, ?_, ?_, ?_, ?_, ?_, ?_, ?_, ?_, ?_, ?_, ?_,by first|trivial|exact hg|exact M.a2j hg (by omega) (by omega)|omega,by first|trivial|exact hg|exact M.a2j hg (by omega) (by omega)|omega,by first|trivial|exact hg|exact M.a2j hg (by omega) (by omega)|omega⟩
 · rfl
 all_goals (try dsimp only)
 all_goals (first|(omega)|omega|(simp only[*];omega)|(simp;done))
theorem zq91(c1c:Nat)(s_at s_seed:Int){As_0:Option Addr}{cs_0 bs:Nat}{w:World}(hb:Bw w [boxO bs [.slice As_0 c1c cs_0,.int .i64 s_at,.int .u64 s_seed] 141])(hps_0:(Ty.bytes 5 c1c).ok (offW w (([boxO bs [.slice As_0 c1c cs_0,.int .i64 s_at,.int .u64 s_seed] 141]:List Own).flatMap (·.fp))) (.slice As_0 c1c cs_0))(r0:0<=s_at:=by exact om_)(r1:s_at<=999998800:=by exact om_)(r2:c1c<=1048576:=by exact om_):RetB Tryz.prog 131 [.pointer (some ⟨bs,0,none⟩)] w [boxO bs [.slice As_0 c1c cs_0,.int .i64 s_at,.int .u64 s_seed] 141] (λv bs'=>∃ (TX:List UInt8) (AT SD:Int),v=.string (sB TX)/\bs'=[boxO bs [.slice As_0 c1c cs_0,.int .i64 AT,.int .u64 SD] 141]/\(TX.length<=12000)/\(s_at<=AT)/\(AT<=s_at + 1200)):=by
 refine enterB hb @Tryz.func131 @Tryz.ntmps131 rfl rfl ?_
 refine zent ?_
 refine Js.trashE ?_
 refine zn ?_
 refine zS<|Qa rfl<|zN<|Qm rfl<|zBB 1 sp_ rfl (λw hb _ hw=>zq90 c1c s_at s_seed 8 hb (ok_ hw)) ?_
 rintro _ _ G1 ⟨X1GX,X1AT,X1SD,A1r_9,c1r_9,g1r_9,A1r_10,c1r_10,g1r_10,A1r_12,c1r_12,g1r_12,A1r_13,c1r_13,g1r_13,A1r_14,c1r_14,g1r_14,rfl,rfl,bl1_0,bl1_1,bl1_2,bl1_3,bl1_4,bl1_5,bl1_6,bl1_7,bl1_8,bl1_9,hX1_0,hX1_1,hX1_2⟩
 refine znl ?_
 refine za zeh λb2=>zw 0 rfl rfl rfl ?_
 refine JL.nil ?_
 refine zf [0,0,0,0,0,0,0] λGG3=>?_
 refine zn ?_
 have hrl:=M.b8i (show M.okG X1GX=true by assumption)
 have hgb:=M.b4l (show M.okG X1GX=true by assumption)
 have lbr:LenB (M.recT X1GX) 10100:=⟨hrl⟩
 refine zS<|zv rfl (λw hw=>zq29 X1GX (ok_ hw) (r0:=(by assumption)))<|Qa rfl<|JL.nil ?_
 refine zf [1] λGG4=>?_
 refine zn ?_
 refine Js.seq<|zS<|Qm rfl<|zBB 1 sp_ rfl (λw hb _ hw=>zq0 c1c X1AT X1SD 9 hb (ok_ hw)) ?_
 rintro _ _ G5 ⟨X5KX,X5AT,X5SD,rfl,rfl,hX5_0,hX5_1,hX5_2,hX5_3⟩
 refine znl ?_
 refine JL.nil ?_
 refine zf [0] λGG6=>?_
 refine zn ?_
 refine Js.block<|zS<|Qe rfl rfl<|Qa rfl<|JL.nil ?_
 refine zi (λh7 h7'=>?_) λh7 h7'=>?_
 ·refine zS<|Qm rfl<|Qm rfl<|zBB 1 sp_ rfl (λw hb _ hw=>zq92 c1c X5AT X5SD (M.recT X1GX) hb (ok_ hw)) ?_
  rintro _ _ G8 ⟨X8TX,X8AT,X8SD,rfl,rfl,hX8_0,hX8_1,hX8_2⟩
  refine znl ?_
  refine Qa rfl<|JL.nil ?_
  refine zf [0] λGG9=>?_
  refine zn ?_
  refine zrb [0] hb (Up.refl _ _) ?_
  refine⟨(X8TX),(X8AT),(X8SD),rfl, ?_,by first|trivial|omega|(simp only[List.length_append,List.length_take,List.length_drop];omega),by first|trivial|omega|(simp only[List.length_append,List.length_take,List.length_drop];omega),by first|trivial|omega|(simp only[List.length_append,List.length_take,List.length_drop];omega)⟩
  · rfl
 refine zS<|Qe rfl rfl<|Qa rfl<|JL.nil ?_
 refine zi (λh10 h10'=>?_) λh10 h10'=>?_
 ·refine zS<|Qm rfl<|Qm rfl<|Qm rfl<|Qq (a0t und_9 rfl)<|Qp rfl rfl<|zBB 1 sp_ rfl (λw hb _ hw=>zq0 c1c X5AT X5SD (((M.recT X1GX).length:Int) + 1) hb (ok_ hw)) ?_
  rintro _ _ G11 ⟨X11KX,X11AT,X11SD,rfl,rfl,hX11_0,hX11_1,hX11_2,hX11_3⟩
  refine znl ?_
  refine Qq (a4o (i:=X11KX.toNat) und_9 rfl (by rw[Int.toNat_of_nonneg (by omega)];exact rfl) (by omega))<|Qa rfl<|JL.nil ?_
  refine zf [0] λGG12=>?_
  refine zn ?_
  refine zrb [0] hb (Up.refl _ _) ?_
  refine⟨((M.recT X1GX).take X11KX.toNat),(X11AT),(X11SD),rfl, ?_,by first|trivial|omega|(simp only[List.length_append,List.length_take,List.length_drop];omega),by first|trivial|omega|(simp only[List.length_append,List.length_take,List.length_drop];omega),by first|trivial|omega|(simp only[List.length_append,List.length_take,List.length_drop];omega)⟩
  · rfl
 refine zS<|Qe rfl rfl<|Qa rfl<|JL.nil ?_
 refine zi (λh13 h13'=>?_) λh13 h13'=>?_
 ·refine zS<|Qm rfl<|Qm rfl<|zbs λb14=>?_
  refine zhl [1] ?_
  refine zBB 1 sp_ rfl (λw hb _ hw=>zq45 c1c X5AT X5SD ([([114,101,115,105,103,110,115,32,48,10]:List UInt8),([49,46,32,48,43,48,10]:List UInt8),([120,10]:List UInt8),([114,101,115,105,103,110,115,32,50,10]:List UInt8),([114,101,115,105,103,110,115,32,49]:List UInt8),([57,57,46,32,48,43,48,10]:List UInt8),([10]:List UInt8)]) hb (ok_ hw) (a4g (xs:=([([114,101,115,105,103,110,115,32,48,10]:List UInt8),([49,46,32,48,43,48,10]:List UInt8),([120,10]:List UInt8),([114,101,115,105,103,110,115,32,50,10]:List UInt8),([114,101,115,105,103,110,115,32,49]:List UInt8),([57,57,46,32,48,43,48,10]:List UInt8),([10]:List UInt8)])) (hw.pr (i:=0) rfl)) (r3:=(by decide)) (r4:=(by decide)) (r5:=(by decide))) ?_
  rintro _ _ G16 ⟨X16TX,X16AT,X16SD,rfl,rfl,hX16_0,hX16_1,hX16_2,hX16_3⟩
  refine znl ?_
  refine Qq (q_cat rfl rfl)<|Qa rfl<|JL.nil ?_
  refine zf [0] λGG17=>?_
  refine zn ?_
  refine zrb [0] hb (Up.refl _ _) ?_
  refine⟨((M.recT X1GX)++X16TX),(X16AT),(X16SD),rfl, ?_,by first|trivial|omega|(simp only[List.length_append,List.length_take,List.length_drop];omega),by first|trivial|omega|(simp only[List.length_append,List.length_take,List.length_drop];omega),by first|trivial|omega|(simp only[List.length_append,List.length_take,List.length_drop];omega)⟩
  · rfl
 refine zS<|Qe rfl rfl<|Qa rfl<|JL.nil ?_
 refine zi (λh18 h18'=>?_) λh18 h18'=>?_
 ·refine zS<|Qm rfl<|Qm rfl<|Qq (a0t und_9 rfl)<|zBB 1 sp_ rfl (λw hb _ hw=>zq0 c1c X5AT X5SD ((M.recT X1GX).length:Int) hb (ok_ hw)) ?_
  rintro _ _ G19 ⟨X19KX,X19AT,X19SD,rfl,rfl,hX19_0,hX19_1,hX19_2,hX19_3⟩
  refine znl ?_
  refine Qa rfl<|JL.nil ?_
  refine zf [0] λGG20=>?_
  refine zn ?_
  refine Js.seq ?_
  refine zdr [5] ?_
  refine jM 0 rfl rfl ?_
  refine jM 1 rfl rfl ?_
  refine JH.p 2 rfl (a4o (i:=X19KX.toNat) und_9 rfl (by rw[Int.toNat_of_nonneg (by omega)];exact rfl) (by omega)) ?_
  refine jM 3 rfl rfl ?_
  refine jM 7 rfl rfl ?_
  refine jM 8 rfl rfl ?_
  refine JH.p 9 rfl (a4m (i:=X19KX.toNat) und_9 rfl (by rw[Int.toNat_of_nonneg (by omega)];exact rfl) (by omega)) ?_
  refine y1 4 ?_
  refine ybs rfl λb21=>?_
  refine y1 5 ?_
  refine zhh [1] ?_
  refine yBB 1 sp_ rfl rfl (λw hb _ hw=>zq45 c1c X19AT X19SD ([([43]:List UInt8),([46]:List UInt8),([10]:List UInt8),([55]:List UInt8),([48]:List UInt8)]) hb (ok_ hw) (a4g (xs:=([([43]:List UInt8),([46]:List UInt8),([10]:List UInt8),([55]:List UInt8),([48]:List UInt8)])) (hw.pr (i:=0) rfl)) (r3:=(by decide)) (r4:=(by decide)) (r5:=(by decide))) ?_
  rintro _ _ G23 ⟨X23TX,X23AT,X23SD,rfl,rfl,hX23_0,hX23_1,hX23_2,hX23_3⟩
  refine znh ?_
  refine JH.p 6 rfl (q_cat rfl rfl) ?_
  refine JH.p 10 rfl (q_cat rfl rfl) ?_
  refine jA 11 rfl rfl ?_
  refine yd ?_
  refine zf [0] λGG24=>?_
  refine zn ?_
  refine zrb [0] hb (Up.refl _ _) ?_
  refine⟨((((M.recT X1GX).take X19KX.toNat)++X23TX)++((M.recT X1GX).drop X19KX.toNat)),(X23AT),(X23SD),rfl, ?_,by first|trivial|omega|(simp only[List.length_append,List.length_take,List.length_drop];omega),by first|trivial|omega|(simp only[List.length_append,List.length_take,List.length_drop];omega),by first|trivial|omega|(simp only[List.length_append,List.length_take,List.length_drop];omega)⟩
  · rfl
 refine Js.skip<|Js.blockEnd<|zS<|Qm rfl<|Qa rfl<|JL.nil ?_
 refine zrb [0] hb (Up.refl _ _) ?_
 refine⟨(M.recT X1GX),(X5AT),(X5SD),rfl, ?_,by first|trivial|omega|(simp only[List.length_append,List.length_take,List.length_drop];omega),by first|trivial|omega|(simp only[List.length_append,List.length_take,List.length_drop];omega),by first|trivial|omega|(simp only[List.length_append,List.length_take,List.length_drop];omega)⟩
 · rfl
theorem zq93(c1c:Nat)(s_at s_seed:Int){As_0:Option Addr}{cs_0 bs:Nat}{w:World}(hb:Bw w [boxO bs [.slice As_0 c1c cs_0,.int .i64 s_at,.int .u64 s_seed] 141])(hps_0:(Ty.bytes 5 c1c).ok (offW w (([boxO bs [.slice As_0 c1c cs_0,.int .i64 s_at,.int .u64 s_seed] 141]:List Own).flatMap (·.fp))) (.slice As_0 c1c cs_0))(r0:0<=s_at:=by exact om_)(r1:s_at<=999999998:=by exact om_)(r2:c1c<=1048576:=by exact om_):RetB Tryz.prog 130 [.pointer (some ⟨bs,0,none⟩)] w [boxO bs [.slice As_0 c1c cs_0,.int .i64 s_at,.int .u64 s_seed] 141] (λv bs'=>∃ (TX:List UInt8) (AT SD:Int),v=.string (sB TX)/\bs'=[boxO bs [.slice As_0 c1c cs_0,.int .i64 AT,.int .u64 SD] 141]/\(TX.length<=12000)/\(s_at<=AT)/\(AT<=s_at + 2)):=by
 have hok9:M.okG (M.Gam.mk (M.Rul.mk 2 1 false false false false false 0 0) (M.Pos.mk [1,0,1,0] [0,0] 0) [] (M.Pos.mk [1,0,1,0] [0,0] 0) (-1))=true:=by decide
 have hrl:=M.b8i hok9
 have lbr:LenB (M.recT (M.Gam.mk (M.Rul.mk 2 1 false false false false false 0 0) (M.Pos.mk [1,0,1,0] [0,0] 0) [] (M.Pos.mk [1,0,1,0] [0,0] 0) (-1))) 10100:=⟨hrl⟩
 refine enterB hb @Tryz.func130 @Tryz.ntmps130 rfl rfl ?_
 refine zent ?_
 refine Js.trashE ?_
 refine zn ?_
 refine zS<|Qa rfl<|zN<|Qb ?_
 refine zb rfl λb1=>zbs λb2=>?_
 refine zbs λb4=>?_
 refine Qb ?_
 refine zb rfl λb6=>zc rfl (λw hw=>zq14 (M.Rul.mk 2 1 false false false false false 0 0) (M.Pos.mk [1,0,1,0] [0,0] 0) (ok_ hw) ⟨_,_,[.slice (some ⟨b2,0,none⟩) 4 4,.slice (some ⟨b4,0,none⟩) 2 2,.int .i64 0],rfl,⟨(a2e (xs:=[1,0,1,0]) (hw.pr (i:=2) rfl)),(a2e (xs:=[0,0]) (hw.pr (i:=1) rfl)),rfl,trivial⟩,Mem.boxR (i:=0) rfl 0 3 _ hw⟩ (r0:=(by simp)) (r1:=(by simp))) ?_
 intro A8 c8 bl8 bh8 A9 c9 bl9 bh9 A10 c10 bl10 bh10 A11 c11 bl11 bh11 A12 c12 bl12 bh12
 refine za zeh λb13=>zw 0 rfl rfl rfl ?_
 refine JL.nil ?_
 refine zf [0,0,0,0,0,0,4] λGG14=>?_
 refine zn ?_
 refine zS<|zv rfl (λw hw=>zq29 (M.Gam.mk (M.Rul.mk 2 1 false false false false false 0 0) (M.Pos.mk [1,0,1,0] [0,0] 0) [] (M.Pos.mk [1,0,1,0] [0,0] 0) (-1)) (ok_ hw) (r0:=(by decide))) ?_
 refine JL.e (b5w und_9 a4z @Tryz.underlying5 rfl) ?_
 rintro v15 _ _ ⟨rfl,rfl⟩ _
 refine JL.fact (a4f (i:=0) rfl) (λhf15=>?_)
 obtain⟨A15,c15,rfl,bl15,bh15⟩:=hf15
 refine znl ?_
 refine Qa rfl<|JL.nil ?_
 refine zf [0,6] λGG16=>?_
 refine zn ?_
 refine Js.seq<|zS<|Qm rfl ?_
 refine zhl [1] ?_
 refine zBB 1 sp_ rfl (λw hb _ hw=>zq0 c1c s_at s_seed 2 hb (ok_ hw)) ?_
 rintro _ _ G17 ⟨X17KX,X17AT,X17SD,rfl,rfl,hX17_0,hX17_1,hX17_2,hX17_3⟩
 refine znl ?_
 refine Qp rfl rfl<|Qm rfl<|Qz rfl<|Qs rfl rfl<|Qa rfl<|JL.nil ?_
 refine zf [0,1] λGG18=>?_
 refine zn ?_
 refine Js.block ?_
 refine zl [] (λF U l os u m=>∃ (n:Int) (out:List UInt8) (A19_4:Option Addr) (c19_4:Nat) (g19_4:List Nat) (G19_2:List Nat),l=F [(4,.slice A19_4 out.length c19_4),(5,.int .i64 n)]/\os=U [nO,some (rowS 5 (.slice A19_4 out.length c19_4) out.length (byt_ out) g19_4),some (anyO G19_2)]/\(n<=4001)/\((out.length:Int)<=12000)/\(0 < n->(out.length:Int) + n<=4002)/\(out.length<=c19_4)/\(c19_4<=9223372036854775807)/\m=n.toNat) ⟨(4000 + X17KX) - (((M.recT (M.Gam.mk (M.Rul.mk 2 1 false false false false false 0 0) (M.Pos.mk [1,0,1,0] [0,0] 0) [] (M.Pos.mk [1,0,1,0] [0,0] 0) (-1))).length):Int),M.recT (M.Gam.mk (M.Rul.mk 2 1 false false false false false 0 0) (M.Pos.mk [1,0,1,0] [0,0] 0) [] (M.Pos.mk [1,0,1,0] [0,0] 0) (-1)),_,_,_,_,rfl,rfl,by omega,by omega,by omega,zu,zu,rfl⟩ ?_
 rintro _ _ u19 _ ⟨n,out,A19_4,c19_4,g19_4,G19_2,rfl,rfl,hn,hl,hs,f19_3,f19_4,rfl⟩ x19
 refine zn ?_
 refine Js.seq<|zS<|Qm rfl<|Qg rfl rfl<|JL.nil ?_
 refine zi (λh20 h20'=>?_) λh20 h20'=>?_
 ·have hu23:((M.u8 120).toNat:Int)=120:=M.b5r (by omega) (by omega)
  refine Js.skip<|Js.seq<|Js.block<|Js.region<|Qm rfl<|zbs λb21=>?_
  refine JL.e (a6t (i:=2) (n':=(out++([M.u8 120]:List UInt8)).length) (vs':=byt_ (out++([M.u8 120]:List UInt8))) el_22 rfl rfl rfl rfl (a8y (i:=0) a4z rfl rfl) (by omega) (by omega) ln2_ (by first|rfl|(simp[byt_,hu23];done))) ?_
  rintro v24 _ _ ⟨⟨g25,rfl⟩,rfl⟩ _
  refine JL.fact (a4f (i:=2) rfl) (λhf26=>?_)
  obtain⟨A26,c26,rfl,bl26,bh26⟩:=hf26
  refine znl ?_
  refine Qa rfl<|JL.nil ?_
  refine zf [1,1] λGG27=>?_
  refine zn ?_
  refine Js.blockEnd<|Js.region<|Qm rfl<|Qs rfl rfl<|Qa rfl<|JL.nil ?_
  exact zag ⟨n - 1,out++([M.u8 120]:List UInt8),_,_,_,_,rfl,rfl,by omega,by simp only[List.length_append,List.length_cons,List.length_nil];omega,by simp only[List.length_append,List.length_cons,List.length_nil];omega,zu,zu,rfl⟩ x19 (by omega)
 refine zx ?_
 refine zS<|Qm rfl<|Qw (b1z (i:=1) a4z @Tryz.underlying5 und_9 rfl rfl)<|Qa rfl<|JL.nil ?_
 refine zf [0] λGG28=>?_
 refine zn ?_
 refine zrb [0] hb x19 ?_
 exact⟨(out),(X17AT),(X17SD),rfl,rfl,zt,zt,zt⟩
theorem zq94(code:Nat){v_code:Value}{w:World}(h_code:(Ty.bytes 5 code).ok w v_code)(r0:code<=1048576:=by exact om_):Ret Tryz.prog 74 [v_code] w (Ty.ex (fun (TX:List UInt8)=>(TX.length<=12000)) (λTX=>Ty.str TX)):=by
 revert v_code;apply opn
 intro A1 c1 h1 bl1 bh1
 have h_code:=h1
 refine enter @Tryz.func74 @Tryz.ntmps74 rfl rfl ?_
 refine zent ?_
 refine zS<|Qa rfl<|zN<|Qm rfl<|zcs rfl (λw hw=>zq48 code (ok_ hw)) ?_
 intro b2
 refine Qa rfl<|zJ<|zS<|Qm rfl<|zB 1 sp_ rfl (λw hb hw=>zq1 code 0 0 40 hb (ok_ hw)) ?_
 rintro _ _ G3 ⟨X3BX,X3AT,X3SD,rfl,rfl,hX3_0,hX3_1⟩
 refine znl ?_
 refine JL.nil ?_
 refine zi (λh4 h4'=>?_) λh4 h4'=>?_
 ·refine zS<|Qm rfl<|zB 1 sp_ rfl (λw hb hw=>zq93 code X3AT X3SD hb (ok_ hw)) ?_
  rintro _ _ G5 ⟨X5TX,X5AT,X5SD,rfl,rfl,hX5_0,hX5_1,hX5_2⟩
  refine znl ?_
  refine Qa rfl<|JL.nil ?_
  exact zro (Up.refl _ _) (g:=by exact(gv_ex X5TX (by first|trivial|omega|(simp only[List.length_append,List.length_take,List.length_drop];omega)) gv_))
 refine Js.skip<|zS<|Qm rfl<|zB 1 sp_ rfl (λw hb hw=>zq91 code X3AT X3SD hb (ok_ hw)) ?_
 rintro _ _ G6 ⟨X6TX,X6AT,X6SD,rfl,rfl,hX6_0,hX6_1,hX6_2⟩
 refine znl ?_
 refine Qa rfl<|JL.nil ?_
 exact zro (Up.refl _ _) (g:=by exact(gv_ex X6TX (by first|trivial|omega|(simp only[List.length_append,List.length_take,List.length_drop];omega)) gv_))
theorem zq95(code:Nat){v_code:Value}{w:World}(h_code:(Ty.bytes 5 code).ok w v_code)(r0:code<=1048576:=by exact om_):Ret Tryz.prog 33 [v_code] w (Ty.ex (fun (TX:List UInt8)=>(TX.length<=12000)) (λTX=>Ty.str TX)):=by
 revert v_code;apply opn
 intro A1 c1 h1 bl1 bh1
 have h_code:=h1
 refine enter @Tryz.func33 @Tryz.ntmps33 rfl rfl ?_
 refine zent ?_
 refine zS<|Qa rfl<|zN<|Qm rfl<|zp rfl (λw hw=>zq94 code (ok_ hw)) ?_
 intro u2 x2 X3 hX3
 refine Qa rfl<|JL.nil ?_
 exact zro x2 (g:=by exact(gv_ex X3 (by first|trivial|omega|(simp only[List.length_append,List.length_take,List.length_drop];omega)) gv_))
theorem zq96(code:Nat){v_code:Value}{w:World}(h_code:(Ty.bytes 5 code).ok w v_code)(r0:code<=1048576:=by exact om_):Ret Tryz.prog 31 [v_code] w (Ty.ex (fun (GX:M.Gam)=>(GX.start.pits.length<=4194304/\GX.start.stores.length<=4194304/\GX.moves.length<=122/\GX.now.pits.length<=4194304/\GX.now.stores.length=2)) (λGX=>Ty.agg (cGame GX))):=by
 revert v_code;apply opn
 intro A1 c1 h1 bl1 bh1
 have h_code:=h1
 refine enter @Tryz.func31 @Tryz.ntmps31 rfl rfl ?_
 refine zent ?_
 refine zS<|za zeh λb2=>zN<|Qm rfl<|zcs rfl (λw hw=>zq48 code (ok_ hw)) ?_
 intro b3
 refine zB 1 sp_ rfl (λw hb hw=>zq97 code 0 0 hb (ok_ hw)) ?_
 rintro _ _ G4 ⟨X4GX,X4AT,X4SD,A4r_9,c4r_9,g4r_9,A4r_10,c4r_10,g4r_10,A4r_12,c4r_12,g4r_12,A4r_13,c4r_13,g4r_13,A4r_14,c4r_14,g4r_14,rfl,rfl,bl4_0,bl4_1,bl4_2,bl4_3,bl4_4,bl4_5,bl4_6,bl4_7,bl4_8,bl4_9,hX4_0,hX4_1,hX4_2⟩
 refine znl ?_
 refine zw 7 rfl rfl rfl ?_
 refine JL.nil ?_
 exact zro (Up.refl _ _) (g:=by exact(gv_ex X4GX (by first|trivial|assumption|omega) gv_))
theorem zq49(g:M.Gam){v_g:Value}{w:World}(h_g:(Ty.agg (cGame g)).ok w v_g)(r0:g.start.pits.length<=4194304:=by exact om_)(r1:g.start.stores.length<=4194304:=by exact om_)(r2:g.moves.length<=4194304:=by exact om_)(r3:g.now.pits.length<=4194304:=by exact om_)(r4:g.now.stores.length<=4194304:=by exact om_):Ret Tryz.prog 71 [v_g] w (Ty.tup [Ty.sl 28 3 (M.playedP g).length (lPosition (M.playedP g)),Ty.sl 109 6 (M.playedR g).length (lResultL (M.playedR g)),Ty.bool (M.playedOk g)]):=by
 revert v_g;apply opn
 intro A1 c1 h1 bl1 bh1 A2 c2 h2 bl2 bh2 A3 c3 h3 bl3 bh3 A4 c4 h4 bl4 bh4 A5 c5 h5 bl5 bh5
 refine enter @Tryz.func71 @Tryz.ntmps71 rfl rfl ?_
 refine zent ?_
 refine zS<|zb rfl λb6=>Qa rfl<|Qa rfl<|Qa rfl<|zJ ?_
 refine zk [1] (λF U l os u=>∃ (b12 b8 b10:Nat) (A7_0:Option Addr) (c7_0:Nat) (A7_1:Option Addr) (c7_1:Nat) (f7:List Nat),l=F [(5,.pointer (some ⟨b12,0,none⟩)),(6,.slice (some ⟨b8,0,none⟩) 1 1),(7,.slice (some ⟨b10,0,none⟩) 0 0)]/\os=[boxO b12 [.slice A1 g.start.pits.length c1,.slice A2 g.start.stores.length c2,.int .i64 g.start.player] 28,rowO 109 6 (.slice (some ⟨b10,0,none⟩) 0 0) 0 [] [],rowO 28 3 (.slice (some ⟨b8,0,none⟩) 1 1) 1 [.slice A7_0 g.start.pits.length c7_0,.slice A7_1 g.start.stores.length c7_1,.int .i64 g.start.player] [],ownC (cPosition g.start) [.slice A7_0 g.start.pits.length c7_0,.slice A7_1 g.start.stores.length c7_1,.int .i64 g.start.player] f7]++U []) ?_ ?_
 ·refine zdr [8] ?_
  refine jF 0 a2l rfl rfl ?_
  refine JH.q 1 rfl (L9 0 rfl rfl) ?_
  refine jF 2 a2l rfl rfl ?_
  refine JH.q 3 rfl (L9 0 rfl rfl) ?_
  refine y3 4 6 7 ?_ ?_ ?_
  ·refine ycs rfl rfl (λw hw=>zq6 g.start (ok_ hw)) ?_
   intro A96_0 c96_0 bl96_0 bh96_0 A96_1 c96_1 bl96_1 bh96_1 f96
   refine y3 5 6 7 ?_ ?_ ?_
   ·refine ybs rfl λb97=>?_
    refine y2 6 7 ?_ ?_
    ·refine ybs rfl λb99=>?_
     refine y1 7 ?_
     refine ya rfl λb101=>?_
     refine y1 8 ?_
     refine yst rfl rfl rfl ?_
     refine jA 9 rfl rfl ?_
     refine jA 10 rfl rfl ?_
     refine yd ?_
     exact zm ⟨_,_,_,_,_,_,_,_,rfl,rfl⟩ (Up.refl _ _)
    refine ya rfl λb102=>?_
    refine y2 6 8 ?_ ?_
    ·refine ybs rfl λb103=>?_
     refine y1 8 ?_
     refine yst rfl rfl rfl ?_
     refine jA 9 rfl rfl ?_
     refine jA 10 rfl rfl ?_
     refine yd ?_
     refine zh [1,0,0,0,0] ?_
     exact zm ⟨_,_,_,_,_,_,_,_,rfl,rfl⟩ (Up.refl _ _)
    refine yst rfl rfl rfl ?_
    refine jA 9 rfl rfl ?_
    refine y1 6 ?_
    refine ybs rfl λb105=>?_
    refine jA 10 rfl rfl ?_
    refine yd ?_
    refine zh [1,0,0,0,0] ?_
    exact zm ⟨_,_,_,_,_,_,_,_,rfl,rfl⟩ (Up.refl _ _)
   ·refine ybs rfl λb107=>?_
    refine y2 5 7 ?_ ?_
    ·refine ybs rfl λb109=>?_
     refine y1 7 ?_
     refine ya rfl λb111=>?_
     refine y1 8 ?_
     refine yst rfl rfl rfl ?_
     refine jA 9 rfl rfl ?_
     refine jA 10 rfl rfl ?_
     refine yd ?_
     refine zh [0,1,0,0,0] ?_
     exact zm ⟨_,_,_,_,_,_,_,_,rfl,rfl⟩ (Up.refl _ _)
    refine ya rfl λb112=>?_
    refine y2 5 8 ?_ ?_
    ·refine ybs rfl λb113=>?_
     refine y1 8 ?_
     refine yst rfl rfl rfl ?_
     refine jA 9 rfl rfl ?_
     refine jA 10 rfl rfl ?_
     refine yd ?_
     refine zh [1,1,0,0,0] ?_
     exact zm ⟨_,_,_,_,_,_,_,_,rfl,rfl⟩ (Up.refl _ _)
    refine yst rfl rfl rfl ?_
    refine y1 5 ?_
    refine ybs rfl λb115=>?_
    refine jA 9 rfl rfl ?_
    refine jA 10 rfl rfl ?_
    refine yd ?_
    refine zh [1,1,0,0,0] ?_
    exact zm ⟨_,_,_,_,_,_,_,_,rfl,rfl⟩ (Up.refl _ _)
   refine ya rfl λb117=>?_
   refine y3 5 6 8 ?_ ?_ ?_
   ·refine ybs rfl λb118=>?_
    refine y2 6 8 ?_ ?_
    ·refine ybs rfl λb120=>?_
     refine y1 8 ?_
     refine yst rfl rfl rfl ?_
     refine jA 9 rfl rfl ?_
     refine jA 10 rfl rfl ?_
     refine yd ?_
     refine zh [2,0,0,0,0] ?_
     exact zm ⟨_,_,_,_,_,_,_,_,rfl,rfl⟩ (Up.refl _ _)
    refine yst rfl rfl rfl ?_
    refine jA 9 rfl rfl ?_
    refine y1 6 ?_
    refine ybs rfl λb122=>?_
    refine jA 10 rfl rfl ?_
    refine yd ?_
    refine zh [2,0,0,0,0] ?_
    exact zm ⟨_,_,_,_,_,_,_,_,rfl,rfl⟩ (Up.refl _ _)
   ·refine ybs rfl λb124=>?_
    refine y2 5 8 ?_ ?_
    ·refine ybs rfl λb126=>?_
     refine y1 8 ?_
     refine yst rfl rfl rfl ?_
     refine jA 9 rfl rfl ?_
     refine jA 10 rfl rfl ?_
     refine yd ?_
     refine zh [2,1,0,0,0] ?_
     exact zm ⟨_,_,_,_,_,_,_,_,rfl,rfl⟩ (Up.refl _ _)
    refine yst rfl rfl rfl ?_
    refine y1 5 ?_
    refine ybs rfl λb128=>?_
    refine jA 9 rfl rfl ?_
    refine jA 10 rfl rfl ?_
    refine yd ?_
    refine zh [2,1,0,0,0] ?_
    exact zm ⟨_,_,_,_,_,_,_,_,rfl,rfl⟩ (Up.refl _ _)
   refine yst rfl rfl rfl ?_
   refine y2 5 6 ?_ ?_
   ·refine ybs rfl λb130=>?_
    refine jA 9 rfl rfl ?_
    refine y1 6 ?_
    refine ybs rfl λb132=>?_
    refine jA 10 rfl rfl ?_
    refine yd ?_
    refine zh [2,0,0,0,0] ?_
    exact zm ⟨_,_,_,_,_,_,_,_,rfl,rfl⟩ (Up.refl _ _)
   refine ybs rfl λb134=>?_
   refine y1 5 ?_
   refine ybs rfl λb136=>?_
   refine jA 9 rfl rfl ?_
   refine jA 10 rfl rfl ?_
   refine yd ?_
   refine zh [2,1,0,0,0] ?_
   exact zm ⟨_,_,_,_,_,_,_,_,rfl,rfl⟩ (Up.refl _ _)
  ·refine ybs rfl λb138=>?_
   refine y2 4 7 ?_ ?_
   ·refine ycs rfl rfl (λw hw=>zq6 g.start (ok_ hw)) ?_
    intro A140_0 c140_0 bl140_0 bh140_0 A140_1 c140_1 bl140_1 bh140_1 f140
    refine y2 5 7 ?_ ?_
    ·refine ybs rfl λb141=>?_
     refine y1 7 ?_
     refine ya rfl λb143=>?_
     refine y1 8 ?_
     refine yst rfl rfl rfl ?_
     refine jA 9 rfl rfl ?_
     refine jA 10 rfl rfl ?_
     refine yd ?_
     refine zh [0,2,0,0,0] ?_
     exact zm ⟨_,_,_,_,_,_,_,_,rfl,rfl⟩ (Up.refl _ _)
    refine ya rfl λb144=>?_
    refine y2 5 8 ?_ ?_
    ·refine ybs rfl λb145=>?_
     refine y1 8 ?_
     refine yst rfl rfl rfl ?_
     refine jA 9 rfl rfl ?_
     refine jA 10 rfl rfl ?_
     refine yd ?_
     refine zh [1,2,0,0,0] ?_
     exact zm ⟨_,_,_,_,_,_,_,_,rfl,rfl⟩ (Up.refl _ _)
    refine yst rfl rfl rfl ?_
    refine y1 5 ?_
    refine ybs rfl λb147=>?_
    refine jA 9 rfl rfl ?_
    refine jA 10 rfl rfl ?_
    refine yd ?_
    refine zh [1,2,0,0,0] ?_
    exact zm ⟨_,_,_,_,_,_,_,_,rfl,rfl⟩ (Up.refl _ _)
   refine ya rfl λb149=>?_
   refine y1 4 ?_
   refine ycs rfl rfl (λw hw=>zq6 g.start (ok_ hw)) ?_
   intro A150_0 c150_0 bl150_0 bh150_0 A150_1 c150_1 bl150_1 bh150_1 f150
   refine y2 5 8 ?_ ?_
   ·refine ybs rfl λb151=>?_
    refine y1 8 ?_
    refine yst rfl rfl rfl ?_
    refine jA 9 rfl rfl ?_
    refine jA 10 rfl rfl ?_
    refine yd ?_
    refine zh [2,2,0,0,0] ?_
    exact zm ⟨_,_,_,_,_,_,_,_,rfl,rfl⟩ (Up.refl _ _)
   refine yst rfl rfl rfl ?_
   refine y1 5 ?_
   refine ybs rfl λb153=>?_
   refine jA 9 rfl rfl ?_
   refine jA 10 rfl rfl ?_
   refine yd ?_
   refine zh [2,2,0,0,0] ?_
   exact zm ⟨_,_,_,_,_,_,_,_,rfl,rfl⟩ (Up.refl _ _)
  refine ya rfl λb155=>?_
  refine y2 4 6 ?_ ?_
  ·refine ycs rfl rfl (λw hw=>zq6 g.start (ok_ hw)) ?_
   intro A156_0 c156_0 bl156_0 bh156_0 A156_1 c156_1 bl156_1 bh156_1 f156
   refine y3 5 6 8 ?_ ?_ ?_
   ·refine ybs rfl λb157=>?_
    refine y2 6 8 ?_ ?_
    ·refine ybs rfl λb159=>?_
     refine y1 8 ?_
     refine yst rfl rfl rfl ?_
     refine jA 9 rfl rfl ?_
     refine jA 10 rfl rfl ?_
     refine yd ?_
     refine zh [3,0,0,0,0] ?_
     exact zm ⟨_,_,_,_,_,_,_,_,rfl,rfl⟩ (Up.refl _ _)
    refine yst rfl rfl rfl ?_
    refine jA 9 rfl rfl ?_
    refine y1 6 ?_
    refine ybs rfl λb161=>?_
    refine jA 10 rfl rfl ?_
    refine yd ?_
    refine zh [3,0,0,0,0] ?_
    exact zm ⟨_,_,_,_,_,_,_,_,rfl,rfl⟩ (Up.refl _ _)
   ·refine ybs rfl λb163=>?_
    refine y2 5 8 ?_ ?_
    ·refine ybs rfl λb165=>?_
     refine y1 8 ?_
     refine yst rfl rfl rfl ?_
     refine jA 9 rfl rfl ?_
     refine jA 10 rfl rfl ?_
     refine yd ?_
     refine zh [3,1,0,0,0] ?_
     exact zm ⟨_,_,_,_,_,_,_,_,rfl,rfl⟩ (Up.refl _ _)
    refine yst rfl rfl rfl ?_
    refine y1 5 ?_
    refine ybs rfl λb167=>?_
    refine jA 9 rfl rfl ?_
    refine jA 10 rfl rfl ?_
    refine yd ?_
    refine zh [3,1,0,0,0] ?_
    exact zm ⟨_,_,_,_,_,_,_,_,rfl,rfl⟩ (Up.refl _ _)
   refine yst rfl rfl rfl ?_
   refine y2 5 6 ?_ ?_
   ·refine ybs rfl λb169=>?_
    refine jA 9 rfl rfl ?_
    refine y1 6 ?_
    refine ybs rfl λb171=>?_
    refine jA 10 rfl rfl ?_
    refine yd ?_
    refine zh [3,0,0,0,0] ?_
    exact zm ⟨_,_,_,_,_,_,_,_,rfl,rfl⟩ (Up.refl _ _)
   refine ybs rfl λb173=>?_
   refine y1 5 ?_
   refine ybs rfl λb175=>?_
   refine jA 9 rfl rfl ?_
   refine jA 10 rfl rfl ?_
   refine yd ?_
   refine zh [3,1,0,0,0] ?_
   exact zm ⟨_,_,_,_,_,_,_,_,rfl,rfl⟩ (Up.refl _ _)
  refine ybs rfl λb177=>?_
  refine y1 4 ?_
  refine ycs rfl rfl (λw hw=>zq6 g.start (ok_ hw)) ?_
  intro A179_0 c179_0 bl179_0 bh179_0 A179_1 c179_1 bl179_1 bh179_1 f179
  refine y2 5 8 ?_ ?_
  ·refine ybs rfl λb180=>?_
   refine y1 8 ?_
   refine yst rfl rfl rfl ?_
   refine jA 9 rfl rfl ?_
   refine jA 10 rfl rfl ?_
   refine yd ?_
   refine zh [3,2,0,0,0] ?_
   exact zm ⟨_,_,_,_,_,_,_,_,rfl,rfl⟩ (Up.refl _ _)
  refine yst rfl rfl rfl ?_
  refine y1 5 ?_
  refine ybs rfl λb182=>?_
  refine jA 9 rfl rfl ?_
  refine jA 10 rfl rfl ?_
  refine yd ?_
  refine zh [3,2,0,0,0] ?_
  exact zm ⟨_,_,_,_,_,_,_,_,rfl,rfl⟩ (Up.refl _ _)
 rintro _ _ u95 ⟨b12,b8,b10,A7_0,c7_0,A7_1,c7_1,f7,rfl,rfl⟩ x95
 refine zn ?_
 refine Js.seq<|zS<|Qf fh rfl<|Q0 4 rfl rfl rfl<|Qz rfl<|Qm rfl<|JL.nil<|Js.block ?_
 refine Js.vals (Ts:=lPosition []) (vs:=[]) (λw=>rfl) ?_
 refine Js.joinL (i:=0) (j:=3) (Vs:=lPosition ([]++[g.start])) rfl rfl (a2q _ _) (λf186=>?_)
 refine zn ?_
 refine Js.vals (Ts:=lResultL []) (vs:=[]) (λw=>rfl) ?_
 refine zl [1,5,20,21] (λF U l os u m=>∃ (k:Nat) (now:M.Pos) (out:List M.Pos) (made:List M.Res) (A184_6:Option Addr) (c184_6:Nat) (g184_6:List Nat) (vs184_6:List Value) (fl184_6:List Nat) (A184_7:Option Addr) (c184_7:Nat) (g184_7:List Nat) (vs184_7:List Value) (fl184_7:List Nat) (A184_5_0:Option Addr) (c184_5_0:Nat) (A184_5_1:Option Addr) (c184_5_1:Nat),l=F [(6,.slice A184_6 out.length c184_6),(7,.slice A184_7 made.length c184_7),(22,.int .i64 (k:Int))]/\os=U [some (ownC (lResultL made) vs184_7 fl184_7),some (ownC (lPosition out) vs184_6 fl184_6),some (boxO b12 [.slice A184_5_0 now.pits.length c184_5_0,.slice A184_5_1 now.stores.length c184_5_1,.int .i64 now.player] 28),some (rowO 109 6 (.slice A184_7 made.length c184_7) made.length vs184_7 g184_7),some (rowO 28 3 (.slice A184_6 out.length c184_6) out.length vs184_6 g184_6)]/\(M.Run g.rules g.start g.moves k now made)/\(out=M.hist g.start made)/\(now.pits.length<=4194304)/\(now.stores.length<=4194304)/\(out.length<=c184_6)/\(c184_6<=9223372036854775807)/\(made.length<=c184_7)/\(c184_7<=9223372036854775807)/\((Ty.ints 2 now.pits).ok u (.slice A184_5_0 now.pits.length c184_5_0))/\(now.pits.length<=c184_5_0)/\(c184_5_0<=9223372036854775807)/\((Ty.ints 2 now.stores).ok u (.slice A184_5_1 now.stores.length c184_5_1))/\(now.stores.length<=c184_5_1)/\(c184_5_1<=9223372036854775807)/\m=g.moves.length - k) ⟨0,g.start,[g.start],[],_,_,_,_,_,_,_,_,_,_,_,_,_,_,rfl,rfl,by exact M.Run.zero _ _ _,by rfl,zt,zt,zu,zu,zu,zu,(Ty.mono _ h1 x95.vis),zu,zu,(Ty.mono _ h2 x95.vis),zu,zu,rfl⟩ ?_
 rintro _ _ u184 _ ⟨k,now,out,made,A184_6,c184_6,g184_6,vs184_6,fl184_6,A184_7,c184_7,g184_7,vs184_7,fl184_7,A184_5_0,c184_5_0,A184_5_1,c184_5_1,rfl,rfl,hR,hO,n0,n1,f184_4,f184_5,f184_6,f184_7,f184_8,f184_9,f184_10,f184_11,f184_12,f184_13,rfl⟩ x184
 refine zn ?_
 have hl1:=hR.len
 have hl3:=hR.le
 have hlO:out.length=made.length + 1:=by rw[hO];simp
 refine zS<|Ql rfl rfl<|zJ ?_
 refine zi (λh187 h187'=>?_) λh187 h187'=>?_
 ·obtain⟨b188,o188,he188,hc188⟩:=a0l (Ty.mono _ h3 (x95.vis.trans x184.vis)) (i:=k) (by omega)
  refine Js.skip<|Js.seq<|Js.block<|zS<|Qq (a0a el_26 rfl rfl (by omega) (by omega) he188)<|QC hc188 rfl<|Qa rfl<|zN<|Qf fh rfl<|Q9 5 rfl rfl ?_
  refine Q9 2 rfl rfl ?_
  refine Qm rfl<|zp rfl (λw hw=>zq22 g.rules now (M.nth g.moves k) (ok_ hw) (ok_ hw)) ?_
  intro u189 x189 A190 c190 h190 bl190 bh190 A191 c191 h191 bl191 bh191
  refine Qm rfl<|Qx rfl rfl<|Qx rfl rfl<|za zeh λb192=>zw 0 rfl rfl rfl ?_
  refine Qa rfl<|zJ<|zS<|Qm rfl<|Qd rfl rfl<|JL.nil ?_
  refine zi (λh193 h193'=>?_) λh193 h193'=>?_
  ·obtain⟨hP1,hP2,hP3⟩:=hR.broken (by omega) (by simpa using h193)
   have hq0:[]=M.playedP g:=by first|exact hP1.symm|exact congrArg Value.bool hP1.symm|exact hP2.symm|exact hP3.symm
   have hq1:[]=M.playedR g:=by first|exact hP1.symm|exact congrArg Value.bool hP1.symm|exact hP2.symm|exact hP3.symm
   have hq2:false=M.playedOk g:=by first|exact hP1.symm|exact congrArg Value.bool hP1.symm|exact hP2.symm|exact hP3.symm
   refine zS<|Qa rfl<|Qa rfl<|Qa rfl<|JL.nil ?_
   exact zro ((x95.trans x184).trans x189)
  have hm:(M.make g.rules now (M.nth g.moves k)).2=0:=by simpa using h193
  have hR2:=hR.step (by omega) hm
  have hl2:=M.a2a (M.a2n hm).2.2.2.1
  refine Js.skip<|zS<|Qf fh rfl<|Q9 0 rfl rfl ?_
  refine zw 3 rfl rfl rfl ?_
  refine JL.nil ?_
  refine zk [1,5,20,21,22] (λF U l os u=>∃ (A199:Option Addr) (c199:Nat) (A204:Option Addr) (c204 b200 b195:Nat) (A194_0:Option Addr) (c194_0:Nat) (A194_1:Option Addr) (c194_1:Nat) (f194 g203 g198:List Nat),l=F [(6,.slice A199 ((out++[(((M.make g.rules now (M.nth g.moves k)).1).next)]).length) c199),(7,.slice A204 ((made++[((M.make g.rules now (M.nth g.moves k)).1)]).length) c204)]/\os=[rowO 109 6 (.slice (some ⟨b200,0,none⟩) 1 1) 1 [.int .i64 (((M.make g.rules now (M.nth g.moves k)).1).move),.int .i64 (((M.make g.rules now (M.nth g.moves k)).1).gain),.bool (((M.make g.rules now (M.nth g.moves k)).1).again),.slice A190 (((((M.make g.rules now (M.nth g.moves k)).1).next).pits).length) c190,.slice A191 (((((M.make g.rules now (M.nth g.moves k)).1).next).stores).length) c191,.int .i64 ((((M.make g.rules now (M.nth g.moves k)).1).next).player)] [],rowO 28 3 (.slice (some ⟨b195,0,none⟩) 1 1) 1 [.slice A194_0 (((((M.make g.rules now (M.nth g.moves k)).1).next).pits).length) c194_0,.slice A194_1 (((((M.make g.rules now (M.nth g.moves k)).1).next).stores).length) c194_1,.int .i64 ((((M.make g.rules now (M.nth g.moves k)).1).next).player)] [],ownC (cPosition (((M.make g.rules now (M.nth g.moves k)).1).next)) [.slice A194_0 (((((M.make g.rules now (M.nth g.moves k)).1).next).pits).length) c194_0,.slice A194_1 (((((M.make g.rules now (M.nth g.moves k)).1).next).stores).length) c194_1,.int .i64 ((((M.make g.rules now (M.nth g.moves k)).1).next).player)] f194]++U [nO,nO,nO,nO,some (rowO 109 6 (.slice A204 ((made++[((M.make g.rules now (M.nth g.moves k)).1)]).length) c204) ((made++[((M.make g.rules now (M.nth g.moves k)).1)]).length) (vs184_7++[.int .i64 (((M.make g.rules now (M.nth g.moves k)).1).move),.int .i64 (((M.make g.rules now (M.nth g.moves k)).1).gain),.bool (((M.make g.rules now (M.nth g.moves k)).1).again),.slice A190 (((((M.make g.rules now (M.nth g.moves k)).1).next).pits).length) c190,.slice A191 (((((M.make g.rules now (M.nth g.moves k)).1).next).stores).length) c191,.int .i64 ((((M.make g.rules now (M.nth g.moves k)).1).next).player)]) g203),some (rowO 28 3 (.slice A199 ((out++[(((M.make g.rules now (M.nth g.moves k)).1).next)]).length) c199) ((out++[(((M.make g.rules now (M.nth g.moves k)).1).next)]).length) (vs184_6++[.slice A194_0 (((((M.make g.rules now (M.nth g.moves k)).1).next).pits).length) c194_0,.slice A194_1 (((((M.make g.rules now (M.nth g.moves k)).1).next).stores).length) c194_1,.int .i64 ((((M.make g.rules now (M.nth g.moves k)).1).next).player)]) g198)]/\((out++[(((M.make g.rules now (M.nth g.moves k)).1).next)]).length<=c199)/\(c199<=9223372036854775807)/\((made++[((M.make g.rules now (M.nth g.moves k)).1)]).length<=c204)/\(c204<=9223372036854775807)) ?_ ?_
  ·refine zdr [4,8] ?_
   refine jM 0 rfl rfl ?_
   refine JH.q 1 rfl (L9 3 rfl rfl) ?_
   refine jM 5 rfl rfl ?_
   refine y2 2 6 ?_ ?_
   ·refine ycs rfl rfl (λw hw=>zq6 (((M.make g.rules now (M.nth g.moves k)).1).next) (ok_ hw)) ?_
    intro A290_0 c290_0 bl290_0 bh290_0 A290_1 c290_1 bl290_1 bh290_1 f290
    refine y2 3 6 ?_ ?_
    ·refine ybs rfl λb291=>?_
     refine y2 4 6 ?_ ?_
     ·refine JHo.e rfl (a0g (i:=7) (n':=(out++[(((M.make g.rules now (M.nth g.moves k)).1).next)]).length) (vs':=vs184_6++[.slice A290_0 (((((M.make g.rules now (M.nth g.moves k)).1).next).pits).length) c290_0,.slice A290_1 (((((M.make g.rules now (M.nth g.moves k)).1).next).stores).length) c290_1,.int .i64 ((((M.make g.rules now (M.nth g.moves k)).1).next).player)]) a3p rfl rfl rfl rfl (a0k (i:=0) a3n rfl rfl) (by omega) (by omega) ln2_ (rfl)) (.inr rfl) ?_
      rintro v293 _ _ ⟨⟨g294,rfl⟩,rfl⟩ _
      refine JH.fact (row_form' (i:=7) rfl) (λhf295=>?_)
      obtain⟨A295,c295,rfl,bl295,bh295⟩:=hf295
      refine znh ?_
      refine y1 6 ?_
      refine JHo.q rfl (L9 2 rfl rfl) ?_
      refine y1 7 ?_
      refine ybs rfl λb296=>?_
      refine y1 8 ?_
      refine JHo.e rfl (a0g (i:=7) (n':=(made++[((M.make g.rules now (M.nth g.moves k)).1)]).length) (vs':=vs184_7++[.int .i64 (((M.make g.rules now (M.nth g.moves k)).1).move),.int .i64 (((M.make g.rules now (M.nth g.moves k)).1).gain),.bool (((M.make g.rules now (M.nth g.moves k)).1).again),.slice A190 (((((M.make g.rules now (M.nth g.moves k)).1).next).pits).length) c190,.slice A191 (((((M.make g.rules now (M.nth g.moves k)).1).next).stores).length) c191,.int .i64 ((((M.make g.rules now (M.nth g.moves k)).1).next).player)]) a3a rfl rfl rfl rfl (a0k (i:=0) a2p rfl rfl) (by omega) (by omega) ln2_ (rfl)) (.inr rfl) ?_
      rintro v298 _ _ ⟨⟨g299,rfl⟩,rfl⟩ _
      refine JH.fact (row_form' (i:=7) rfl) (λhf300=>?_)
      obtain⟨A300,c300,rfl,bl300,bh300⟩:=hf300
      refine znh ?_
      refine jA 9 rfl rfl ?_
      refine jA 10 rfl rfl ?_
      refine yd ?_
      exact zm ⟨_,_,_,_,_,_,_,_,_,_,_,_,_,rfl,rfl,zt,zt,zt,zt⟩ (Up.refl _ _)
     refine JHo.q rfl (L9 2 rfl rfl) ?_
     refine y2 4 7 ?_ ?_
     ·refine JHo.e rfl (a0g (i:=7) (n':=(out++[(((M.make g.rules now (M.nth g.moves k)).1).next)]).length) (vs':=vs184_6++[.slice A290_0 (((((M.make g.rules now (M.nth g.moves k)).1).next).pits).length) c290_0,.slice A290_1 (((((M.make g.rules now (M.nth g.moves k)).1).next).stores).length) c290_1,.int .i64 ((((M.make g.rules now (M.nth g.moves k)).1).next).player)]) a3p rfl rfl rfl rfl (a0k (i:=0) a3n rfl rfl) (by omega) (by omega) ln2_ (rfl)) (.inr rfl) ?_
      rintro v301 _ _ ⟨⟨g302,rfl⟩,rfl⟩ _
      refine JH.fact (row_form' (i:=7) rfl) (λhf303=>?_)
      obtain⟨A303,c303,rfl,bl303,bh303⟩:=hf303
      refine znh ?_
      refine y1 7 ?_
      refine ybs rfl λb304=>?_
      refine y1 8 ?_
      refine JHo.e rfl (a0g (i:=7) (n':=(made++[((M.make g.rules now (M.nth g.moves k)).1)]).length) (vs':=vs184_7++[.int .i64 (((M.make g.rules now (M.nth g.moves k)).1).move),.int .i64 (((M.make g.rules now (M.nth g.moves k)).1).gain),.bool (((M.make g.rules now (M.nth g.moves k)).1).again),.slice A190 (((((M.make g.rules now (M.nth g.moves k)).1).next).pits).length) c190,.slice A191 (((((M.make g.rules now (M.nth g.moves k)).1).next).stores).length) c191,.int .i64 ((((M.make g.rules now (M.nth g.moves k)).1).next).player)]) a3a rfl rfl rfl rfl (a0k (i:=0) a2p rfl rfl) (by omega) (by omega) ln2_ (rfl)) (.inr rfl) ?_
      rintro v306 _ _ ⟨⟨g307,rfl⟩,rfl⟩ _
      refine JH.fact (row_form' (i:=7) rfl) (λhf308=>?_)
      obtain⟨A308,c308,rfl,bl308,bh308⟩:=hf308
      refine znh ?_
      refine jA 9 rfl rfl ?_
      refine jA 10 rfl rfl ?_
      refine yd ?_
      exact zm ⟨_,_,_,_,_,_,_,_,_,_,_,_,_,rfl,rfl,zt,zt,zt,zt⟩ (Up.refl _ _)
     refine ybs rfl λb309=>?_
     refine y1 4 ?_
     refine JHo.e rfl (a0g (i:=8) (n':=(out++[(((M.make g.rules now (M.nth g.moves k)).1).next)]).length) (vs':=vs184_6++[.slice A290_0 (((((M.make g.rules now (M.nth g.moves k)).1).next).pits).length) c290_0,.slice A290_1 (((((M.make g.rules now (M.nth g.moves k)).1).next).stores).length) c290_1,.int .i64 ((((M.make g.rules now (M.nth g.moves k)).1).next).player)]) a3p rfl rfl rfl rfl (a0k (i:=1) a3n rfl rfl) (by omega) (by omega) ln2_ (rfl)) (.inr rfl) ?_
     rintro v311 _ _ ⟨⟨g312,rfl⟩,rfl⟩ _
     refine JH.fact (row_form' (i:=8) rfl) (λhf313=>?_)
     obtain⟨A313,c313,rfl,bl313,bh313⟩:=hf313
     refine znh ?_
     refine y1 8 ?_
     refine JHo.e rfl (a0g (i:=7) (n':=(made++[((M.make g.rules now (M.nth g.moves k)).1)]).length) (vs':=vs184_7++[.int .i64 (((M.make g.rules now (M.nth g.moves k)).1).move),.int .i64 (((M.make g.rules now (M.nth g.moves k)).1).gain),.bool (((M.make g.rules now (M.nth g.moves k)).1).again),.slice A190 (((((M.make g.rules now (M.nth g.moves k)).1).next).pits).length) c190,.slice A191 (((((M.make g.rules now (M.nth g.moves k)).1).next).stores).length) c191,.int .i64 ((((M.make g.rules now (M.nth g.moves k)).1).next).player)]) a3a rfl rfl rfl rfl (a0k (i:=0) a2p rfl rfl) (by omega) (by omega) ln2_ (rfl)) (.inr rfl) ?_
     rintro v314 _ _ ⟨⟨g315,rfl⟩,rfl⟩ _
     refine JH.fact (row_form' (i:=7) rfl) (λhf316=>?_)
     obtain⟨A316,c316,rfl,bl316,bh316⟩:=hf316
     refine znh ?_
     refine jA 9 rfl rfl ?_
     refine jA 10 rfl rfl ?_
     refine yd ?_
     exact zm ⟨_,_,_,_,_,_,_,_,_,_,_,_,_,rfl,rfl,zt,zt,zt,zt⟩ (Up.refl _ _)
    refine JHo.q rfl (L9 1 rfl rfl) ?_
    refine y2 3 7 ?_ ?_
    ·refine ybs rfl λb317=>?_
     refine y2 4 7 ?_ ?_
     ·refine JHo.e rfl (a0g (i:=7) (n':=(out++[(((M.make g.rules now (M.nth g.moves k)).1).next)]).length) (vs':=vs184_6++[.slice A290_0 (((((M.make g.rules now (M.nth g.moves k)).1).next).pits).length) c290_0,.slice A290_1 (((((M.make g.rules now (M.nth g.moves k)).1).next).stores).length) c290_1,.int .i64 ((((M.make g.rules now (M.nth g.moves k)).1).next).player)]) a3p rfl rfl rfl rfl (a0k (i:=0) a3n rfl rfl) (by omega) (by omega) ln2_ (rfl)) (.inr rfl) ?_
      rintro v319 _ _ ⟨⟨g320,rfl⟩,rfl⟩ _
      refine JH.fact (row_form' (i:=7) rfl) (λhf321=>?_)
      obtain⟨A321,c321,rfl,bl321,bh321⟩:=hf321
      refine znh ?_
      refine y1 7 ?_
      refine ybs rfl λb322=>?_
      refine y1 8 ?_
      refine JHo.e rfl (a0g (i:=7) (n':=(made++[((M.make g.rules now (M.nth g.moves k)).1)]).length) (vs':=vs184_7++[.int .i64 (((M.make g.rules now (M.nth g.moves k)).1).move),.int .i64 (((M.make g.rules now (M.nth g.moves k)).1).gain),.bool (((M.make g.rules now (M.nth g.moves k)).1).again),.slice A190 (((((M.make g.rules now (M.nth g.moves k)).1).next).pits).length) c190,.slice A191 (((((M.make g.rules now (M.nth g.moves k)).1).next).stores).length) c191,.int .i64 ((((M.make g.rules now (M.nth g.moves k)).1).next).player)]) a3a rfl rfl rfl rfl (a0k (i:=0) a2p rfl rfl) (by omega) (by omega) ln2_ (rfl)) (.inr rfl) ?_
      rintro v324 _ _ ⟨⟨g325,rfl⟩,rfl⟩ _
      refine JH.fact (row_form' (i:=7) rfl) (λhf326=>?_)
      obtain⟨A326,c326,rfl,bl326,bh326⟩:=hf326
      refine znh ?_
      refine jA 9 rfl rfl ?_
      refine jA 10 rfl rfl ?_
      refine yd ?_
      exact zm ⟨_,_,_,_,_,_,_,_,_,_,_,_,_,rfl,rfl,zt,zt,zt,zt⟩ (Up.refl _ _)
     refine ybs rfl λb327=>?_
     refine y1 4 ?_
     refine JHo.e rfl (a0g (i:=8) (n':=(out++[(((M.make g.rules now (M.nth g.moves k)).1).next)]).length) (vs':=vs184_6++[.slice A290_0 (((((M.make g.rules now (M.nth g.moves k)).1).next).pits).length) c290_0,.slice A290_1 (((((M.make g.rules now (M.nth g.moves k)).1).next).stores).length) c290_1,.int .i64 ((((M.make g.rules now (M.nth g.moves k)).1).next).player)]) a3p rfl rfl rfl rfl (a0k (i:=1) a3n rfl rfl) (by omega) (by omega) ln2_ (rfl)) (.inr rfl) ?_
     rintro v329 _ _ ⟨⟨g330,rfl⟩,rfl⟩ _
     refine JH.fact (row_form' (i:=8) rfl) (λhf331=>?_)
     obtain⟨A331,c331,rfl,bl331,bh331⟩:=hf331
     refine znh ?_
     refine y1 8 ?_
     refine JHo.e rfl (a0g (i:=7) (n':=(made++[((M.make g.rules now (M.nth g.moves k)).1)]).length) (vs':=vs184_7++[.int .i64 (((M.make g.rules now (M.nth g.moves k)).1).move),.int .i64 (((M.make g.rules now (M.nth g.moves k)).1).gain),.bool (((M.make g.rules now (M.nth g.moves k)).1).again),.slice A190 (((((M.make g.rules now (M.nth g.moves k)).1).next).pits).length) c190,.slice A191 (((((M.make g.rules now (M.nth g.moves k)).1).next).stores).length) c191,.int .i64 ((((M.make g.rules now (M.nth g.moves k)).1).next).player)]) a3a rfl rfl rfl rfl (a0k (i:=0) a2p rfl rfl) (by omega) (by omega) ln2_ (rfl)) (.inr rfl) ?_
     rintro v332 _ _ ⟨⟨g333,rfl⟩,rfl⟩ _
     refine JH.fact (row_form' (i:=7) rfl) (λhf334=>?_)
     obtain⟨A334,c334,rfl,bl334,bh334⟩:=hf334
     refine znh ?_
     refine jA 9 rfl rfl ?_
     refine jA 10 rfl rfl ?_
     refine yd ?_
     exact zm ⟨_,_,_,_,_,_,_,_,_,_,_,_,_,rfl,rfl,zt,zt,zt,zt⟩ (Up.refl _ _)
    refine ybs rfl λb335=>?_
    refine y1 3 ?_
    refine ybs rfl λb337=>?_
    refine y1 4 ?_
    refine JHo.e rfl (a0g (i:=8) (n':=(out++[(((M.make g.rules now (M.nth g.moves k)).1).next)]).length) (vs':=vs184_6++[.slice A290_0 (((((M.make g.rules now (M.nth g.moves k)).1).next).pits).length) c290_0,.slice A290_1 (((((M.make g.rules now (M.nth g.moves k)).1).next).stores).length) c290_1,.int .i64 ((((M.make g.rules now (M.nth g.moves k)).1).next).player)]) a3p rfl rfl rfl rfl (a0k (i:=0) a3n rfl rfl) (by omega) (by omega) ln2_ (rfl)) (.inr rfl) ?_
    rintro v339 _ _ ⟨⟨g340,rfl⟩,rfl⟩ _
    refine JH.fact (row_form' (i:=8) rfl) (λhf341=>?_)
    obtain⟨A341,c341,rfl,bl341,bh341⟩:=hf341
    refine znh ?_
    refine y1 8 ?_
    refine JHo.e rfl (a0g (i:=7) (n':=(made++[((M.make g.rules now (M.nth g.moves k)).1)]).length) (vs':=vs184_7++[.int .i64 (((M.make g.rules now (M.nth g.moves k)).1).move),.int .i64 (((M.make g.rules now (M.nth g.moves k)).1).gain),.bool (((M.make g.rules now (M.nth g.moves k)).1).again),.slice A190 (((((M.make g.rules now (M.nth g.moves k)).1).next).pits).length) c190,.slice A191 (((((M.make g.rules now (M.nth g.moves k)).1).next).stores).length) c191,.int .i64 ((((M.make g.rules now (M.nth g.moves k)).1).next).player)]) a3a rfl rfl rfl rfl (a0k (i:=1) a2p rfl rfl) (by omega) (by omega) ln2_ (rfl)) (.inr rfl) ?_
    rintro v342 _ _ ⟨⟨g343,rfl⟩,rfl⟩ _
    refine JH.fact (row_form' (i:=7) rfl) (λhf344=>?_)
    obtain⟨A344,c344,rfl,bl344,bh344⟩:=hf344
    refine znh ?_
    refine jA 9 rfl rfl ?_
    refine jA 10 rfl rfl ?_
    refine yd ?_
    refine zh [1,0,0,0,0,0,0,0,0,0] ?_
    exact zm ⟨_,_,_,_,_,_,_,_,_,_,_,_,_,rfl,rfl,zt,zt,zt,zt⟩ (Up.refl _ _)
   refine JHo.q rfl (L9 0 rfl rfl) ?_
   refine y2 2 7 ?_ ?_
   ·refine ycs rfl rfl (λw hw=>zq6 (((M.make g.rules now (M.nth g.moves k)).1).next) (ok_ hw)) ?_
    intro A345_0 c345_0 bl345_0 bh345_0 A345_1 c345_1 bl345_1 bh345_1 f345
    refine y2 3 7 ?_ ?_
    ·refine ybs rfl λb346=>?_
     refine y2 4 7 ?_ ?_
     ·refine JHo.e rfl (a0g (i:=7) (n':=(out++[(((M.make g.rules now (M.nth g.moves k)).1).next)]).length) (vs':=vs184_6++[.slice A345_0 (((((M.make g.rules now (M.nth g.moves k)).1).next).pits).length) c345_0,.slice A345_1 (((((M.make g.rules now (M.nth g.moves k)).1).next).stores).length) c345_1,.int .i64 ((((M.make g.rules now (M.nth g.moves k)).1).next).player)]) a3p rfl rfl rfl rfl (a0k (i:=0) a3n rfl rfl) (by omega) (by omega) ln2_ (rfl)) (.inr rfl) ?_
      rintro v348 _ _ ⟨⟨g349,rfl⟩,rfl⟩ _
      refine JH.fact (row_form' (i:=7) rfl) (λhf350=>?_)
      obtain⟨A350,c350,rfl,bl350,bh350⟩:=hf350
      refine znh ?_
      refine y1 7 ?_
      refine ybs rfl λb351=>?_
      refine y1 8 ?_
      refine JHo.e rfl (a0g (i:=7) (n':=(made++[((M.make g.rules now (M.nth g.moves k)).1)]).length) (vs':=vs184_7++[.int .i64 (((M.make g.rules now (M.nth g.moves k)).1).move),.int .i64 (((M.make g.rules now (M.nth g.moves k)).1).gain),.bool (((M.make g.rules now (M.nth g.moves k)).1).again),.slice A190 (((((M.make g.rules now (M.nth g.moves k)).1).next).pits).length) c190,.slice A191 (((((M.make g.rules now (M.nth g.moves k)).1).next).stores).length) c191,.int .i64 ((((M.make g.rules now (M.nth g.moves k)).1).next).player)]) a3a rfl rfl rfl rfl (a0k (i:=0) a2p rfl rfl) (by omega) (by omega) ln2_ (rfl)) (.inr rfl) ?_
      rintro v353 _ _ ⟨⟨g354,rfl⟩,rfl⟩ _
      refine JH.fact (row_form' (i:=7) rfl) (λhf355=>?_)
      obtain⟨A355,c355,rfl,bl355,bh355⟩:=hf355
      refine znh ?_
      refine jA 9 rfl rfl ?_
      refine jA 10 rfl rfl ?_
      refine yd ?_
      exact zm ⟨_,_,_,_,_,_,_,_,_,_,_,_,_,rfl,rfl,zt,zt,zt,zt⟩ (Up.refl _ _)
     refine ybs rfl λb356=>?_
     refine y1 4 ?_
     refine JHo.e rfl (a0g (i:=8) (n':=(out++[(((M.make g.rules now (M.nth g.moves k)).1).next)]).length) (vs':=vs184_6++[.slice A345_0 (((((M.make g.rules now (M.nth g.moves k)).1).next).pits).length) c345_0,.slice A345_1 (((((M.make g.rules now (M.nth g.moves k)).1).next).stores).length) c345_1,.int .i64 ((((M.make g.rules now (M.nth g.moves k)).1).next).player)]) a3p rfl rfl rfl rfl (a0k (i:=1) a3n rfl rfl) (by omega) (by omega) ln2_ (rfl)) (.inr rfl) ?_
     rintro v358 _ _ ⟨⟨g359,rfl⟩,rfl⟩ _
     refine JH.fact (row_form' (i:=8) rfl) (λhf360=>?_)
     obtain⟨A360,c360,rfl,bl360,bh360⟩:=hf360
     refine znh ?_
     refine y1 8 ?_
     refine JHo.e rfl (a0g (i:=7) (n':=(made++[((M.make g.rules now (M.nth g.moves k)).1)]).length) (vs':=vs184_7++[.int .i64 (((M.make g.rules now (M.nth g.moves k)).1).move),.int .i64 (((M.make g.rules now (M.nth g.moves k)).1).gain),.bool (((M.make g.rules now (M.nth g.moves k)).1).again),.slice A190 (((((M.make g.rules now (M.nth g.moves k)).1).next).pits).length) c190,.slice A191 (((((M.make g.rules now (M.nth g.moves k)).1).next).stores).length) c191,.int .i64 ((((M.make g.rules now (M.nth g.moves k)).1).next).player)]) a3a rfl rfl rfl rfl (a0k (i:=0) a2p rfl rfl) (by omega) (by omega) ln2_ (rfl)) (.inr rfl) ?_
     rintro v361 _ _ ⟨⟨g362,rfl⟩,rfl⟩ _
     refine JH.fact (row_form' (i:=7) rfl) (λhf363=>?_)
     obtain⟨A363,c363,rfl,bl363,bh363⟩:=hf363
     refine znh ?_
     refine jA 9 rfl rfl ?_
     refine jA 10 rfl rfl ?_
     refine yd ?_
     exact zm ⟨_,_,_,_,_,_,_,_,_,_,_,_,_,rfl,rfl,zt,zt,zt,zt⟩ (Up.refl _ _)
    refine ybs rfl λb364=>?_
    refine y1 3 ?_
    refine ybs rfl λb366=>?_
    refine y1 4 ?_
    refine JHo.e rfl (a0g (i:=8) (n':=(out++[(((M.make g.rules now (M.nth g.moves k)).1).next)]).length) (vs':=vs184_6++[.slice A345_0 (((((M.make g.rules now (M.nth g.moves k)).1).next).pits).length) c345_0,.slice A345_1 (((((M.make g.rules now (M.nth g.moves k)).1).next).stores).length) c345_1,.int .i64 ((((M.make g.rules now (M.nth g.moves k)).1).next).player)]) a3p rfl rfl rfl rfl (a0k (i:=0) a3n rfl rfl) (by omega) (by omega) ln2_ (rfl)) (.inr rfl) ?_
    rintro v368 _ _ ⟨⟨g369,rfl⟩,rfl⟩ _
    refine JH.fact (row_form' (i:=8) rfl) (λhf370=>?_)
    obtain⟨A370,c370,rfl,bl370,bh370⟩:=hf370
    refine znh ?_
    refine y1 8 ?_
    refine JHo.e rfl (a0g (i:=7) (n':=(made++[((M.make g.rules now (M.nth g.moves k)).1)]).length) (vs':=vs184_7++[.int .i64 (((M.make g.rules now (M.nth g.moves k)).1).move),.int .i64 (((M.make g.rules now (M.nth g.moves k)).1).gain),.bool (((M.make g.rules now (M.nth g.moves k)).1).again),.slice A190 (((((M.make g.rules now (M.nth g.moves k)).1).next).pits).length) c190,.slice A191 (((((M.make g.rules now (M.nth g.moves k)).1).next).stores).length) c191,.int .i64 ((((M.make g.rules now (M.nth g.moves k)).1).next).player)]) a3a rfl rfl rfl rfl (a0k (i:=1) a2p rfl rfl) (by omega) (by omega) ln2_ (rfl)) (.inr rfl) ?_
    rintro v371 _ _ ⟨⟨g372,rfl⟩,rfl⟩ _
    refine JH.fact (row_form' (i:=7) rfl) (λhf373=>?_)
    obtain⟨A373,c373,rfl,bl373,bh373⟩:=hf373
    refine znh ?_
    refine jA 9 rfl rfl ?_
    refine jA 10 rfl rfl ?_
    refine yd ?_
    refine zh [1,0,0,0,0,0,0,0,0,0] ?_
    exact zm ⟨_,_,_,_,_,_,_,_,_,_,_,_,_,rfl,rfl,zt,zt,zt,zt⟩ (Up.refl _ _)
   refine ybs rfl λb374=>?_
   refine y1 2 ?_
   refine ycs rfl rfl (λw hw=>zq6 (((M.make g.rules now (M.nth g.moves k)).1).next) (ok_ hw)) ?_
   intro A376_0 c376_0 bl376_0 bh376_0 A376_1 c376_1 bl376_1 bh376_1 f376
   refine y1 3 ?_
   refine ybs rfl λb377=>?_
   refine y1 4 ?_
   refine JHo.e rfl (a0g (i:=8) (n':=(out++[(((M.make g.rules now (M.nth g.moves k)).1).next)]).length) (vs':=vs184_6++[.slice A376_0 (((((M.make g.rules now (M.nth g.moves k)).1).next).pits).length) c376_0,.slice A376_1 (((((M.make g.rules now (M.nth g.moves k)).1).next).stores).length) c376_1,.int .i64 ((((M.make g.rules now (M.nth g.moves k)).1).next).player)]) a3p rfl rfl rfl rfl (a0k (i:=0) a3n rfl rfl) (by omega) (by omega) ln2_ (rfl)) (.inr rfl) ?_
   rintro v379 _ _ ⟨⟨g380,rfl⟩,rfl⟩ _
   refine JH.fact (row_form' (i:=8) rfl) (λhf381=>?_)
   obtain⟨A381,c381,rfl,bl381,bh381⟩:=hf381
   refine znh ?_
   refine y1 8 ?_
   refine JHo.e rfl (a0g (i:=7) (n':=(made++[((M.make g.rules now (M.nth g.moves k)).1)]).length) (vs':=vs184_7++[.int .i64 (((M.make g.rules now (M.nth g.moves k)).1).move),.int .i64 (((M.make g.rules now (M.nth g.moves k)).1).gain),.bool (((M.make g.rules now (M.nth g.moves k)).1).again),.slice A190 (((((M.make g.rules now (M.nth g.moves k)).1).next).pits).length) c190,.slice A191 (((((M.make g.rules now (M.nth g.moves k)).1).next).stores).length) c191,.int .i64 ((((M.make g.rules now (M.nth g.moves k)).1).next).player)]) a3a rfl rfl rfl rfl (a0k (i:=2) a2p rfl rfl) (by omega) (by omega) ln2_ (rfl)) (.inr rfl) ?_
   rintro v382 _ _ ⟨⟨g383,rfl⟩,rfl⟩ _
   refine JH.fact (row_form' (i:=7) rfl) (λhf384=>?_)
   obtain⟨A384,c384,rfl,bl384,bh384⟩:=hf384
   refine znh ?_
   refine jA 9 rfl rfl ?_
   refine jA 10 rfl rfl ?_
   refine yd ?_
   refine zh [2,0,0,0,0,0,0,0,0,0] ?_
   exact zm ⟨_,_,_,_,_,_,_,_,_,_,_,_,_,rfl,rfl,zt,zt,zt,zt⟩ (Up.refl _ _)
  rintro _ _ u289 ⟨A199,c199,A204,c204,b200,b195,A194_0,c194_0,A194_1,c194_1,f194,g203,g198,rfl,rfl,f289_0,f289_1,f289_2,f289_3⟩ x289
  refine zn ?_
  refine Js.joinL (i:=5) (j:=2) (Vs:=lPosition (out++[(((M.make g.rules now (M.nth g.moves k)).1).next)])) rfl rfl (a2q _ _) (λf386=>?_)
  refine zn ?_
  refine Js.vals (Ts:=cResultL ((M.make g.rules now (M.nth g.moves k)).1)) (vs:=[.int .i64 (((M.make g.rules now (M.nth g.moves k)).1).move),.int .i64 (((M.make g.rules now (M.nth g.moves k)).1).gain),.bool (((M.make g.rules now (M.nth g.moves k)).1).again),.slice A190 (((((M.make g.rules now (M.nth g.moves k)).1).next).pits).length) c190,.slice A191 (((((M.make g.rules now (M.nth g.moves k)).1).next).stores).length) c191,.int .i64 ((((M.make g.rules now (M.nth g.moves k)).1).next).player)]) (λw=>⟨[],[],rfl,⟨rfl,rfl⟩,⟨[],[],rfl,⟨rfl,rfl⟩,⟨[],[],rfl,⟨rfl,rfl⟩,⟨[],[],rfl,⟨rfl,rfl⟩,⟨[],[],rfl,⟨rfl,rfl⟩,⟨[],[],rfl,⟨rfl,rfl⟩,rfl⟩⟩⟩⟩⟩⟩) ?_
  refine Js.joinL (i:=5) (j:=0) (Vs:=lResultL (made++[((M.make g.rules now (M.nth g.moves k)).1)])) rfl rfl (b3v _ _) (λf388=>?_)
  refine zn ?_
  refine Js.blockEnd<|Js.region<|Qp rfl rfl<|Qm rfl<|JL.nil ?_
  refine zd [0,0,3,3,3,3] rfl λu389 x389=>?_
  exact zag ⟨k + 1,(((M.make g.rules now (M.nth g.moves k)).1).next),out++[(((M.make g.rules now (M.nth g.moves k)).1).next)],made++[((M.make g.rules now (M.nth g.moves k)).1)],_,_,_,_,_,_,_,_,_,_,_,_,_,_,rfl,rfl,by exact hR2,by rw[hO];exact(M.b5p _ _ _).symm,by exact hl2.1,by exact hl2.2,zu,zu,zu,zu,(Ty.mono _ h190 (x289.vis.trans x389.vis)),zu,zu,(Ty.mono _ h191 (x289.vis.trans x389.vis)),zu,zu,rfl⟩ (((x184.trans x189).trans x289).trans x389)
 obtain⟨hP1,hP2,hP3⟩:=hR.played (by omega)
 rw[<- hO] at hP2
 refine zx ?_
 have hq0:out=M.playedP g:=by first|exact hP1.symm|exact congrArg Value.bool hP1.symm|exact hP2.symm|exact hP3.symm
 have hq1:made=M.playedR g:=by first|exact hP1.symm|exact congrArg Value.bool hP1.symm|exact hP2.symm|exact hP3.symm
 have hq2:true=M.playedOk g:=by first|exact hP1.symm|exact congrArg Value.bool hP1.symm|exact hP2.symm|exact hP3.symm
 refine zS<|Qm rfl<|Qm rfl<|Qa rfl<|Qa rfl<|Qa rfl<|JL.nil ?_
 exact zro (x95.trans x184)
theorem zq98(g:M.Gam){v_g:Value}{w:World}(h_g:(Ty.agg (cGame g)).ok w v_g)(r0:g.start.pits.length<=4194304:=by exact om_)(r1:g.start.stores.length<=4194304:=by exact om_)(r2:g.moves.length<=4194304:=by exact om_)(r3:g.now.pits.length<=4194304:=by exact om_)(r4:g.now.stores.length<=4194304:=by exact om_):RetV Tryz.prog 70 [v_g] w (.bool (M.okG g)):=by
 revert v_g;apply opn
 intro A1 c1 h1 bl1 bh1 A2 c2 h2 bl2 bh2 A3 c3 h3 bl3 bh3 A4 c4 h4 bl4 bh4 A5 c5 h5 bl5 bh5
 refine enter @Tryz.func70 @Tryz.ntmps70 rfl rfl ?_
 refine zent ?_
 refine zS<|zb rfl λb6=>Qa rfl<|zJ<|zS<|Qf fh rfl<|Q9 0 rfl rfl ?_
 refine Qf fh rfl<|Q9 0 rfl rfl ?_
 refine zv rfl (λw hw=>zq23 g.rules g.start (ok_ hw) (ok_ hw))<|Qt rfl<|Qm rfl<|zg (Gd.f1 rfl rfl rfl) (λhc=>a0b a0x.h rfl)<|zgq (Gd.f1 rfl rfl rfl) (λhc=>a0c ty_26.h (gh hc rfl) (Mem.box (i:=0) rfl rfl))<|zg (Gd.f1 rfl rfl rfl) (λhc=>p_len el_26 (gh hc rfl))<|zg (Gd.f1 rfl rfl rfl) (λhc=>p_gtr (gh hc rfl) rfl)<|Qq (a0j rfl rfl rfl)<|Qm rfl<|zg (Gd.f1 rfl rfl rfl) (λhc=>a0b a4r.h rfl)<|zgq (Gd.f1 rfl rfl rfl) (λhc=>a0c ty_2.h (gh hc rfl) (Mem.box (i:=0) rfl rfl))<|zgv (Gd.f1 rfl rfl rfl) (λhc=>(a1o (gh hc rfl) rfl rfl)) (λhc=>(λw hw=>zq7 g.resigned (-1) 1)) ?_
 refine zg (Gd.f1 rfl rfl rfl) (λhc=>p_not (gh hc rfl))<|Qq (a0j rfl rfl rfl)<|JL.nil ?_
 refine zi (λh7 h7'=>?_) λh7 h7'=>?_
 ·refine zS<|Qa rfl<|JL.nil ?_
  refine zR (Up.refl _ _) ?_
  exact congrArg (λb=>Ending.returned (.bool b)) (M.okG_no (by simpa[or_assoc] using h7)).symm
 have ho:M.okP g.rules g.start=true/\(g.moves.length:Int)<=120/\M.betw g.resigned (-1) 1=true:=by simpa[and_assoc] using h7
 refine Js.skip<|zS<|Q9 0 rfl rfl ?_
 refine zp rfl (λw hw=>zq49 g (ok_ hw)) ?_
 intro u8 x8 A9 c9 h9 bl9 bh9 A10 c10 h10 bl10 bh10
 refine Qm rfl<|Qx rfl rfl<|Qx rfl rfl<|Qx rfl rfl<|Qa rfl<|Qa rfl<|Qa rfl<|zJ ?_
 rcases Bool.eq_false_or_eq_true (M.playedOk g) with h11|h11
 ·obtain⟨hl1,hl2⟩:=M.a6g h11
  have hl3:=M.a2a (M.a4b _ _ ho.1 (M.b0p g.moves _ ho.1))
  refine zdr [] ?_
  refine jM 0 rfl rfl ?_
  refine jM 1 rfl rfl ?_
  refine JH.pgT 2 rfl (Gd.t1 rfl rfl rfl) (show(M.playedOk g)=true by first|exact h11|(rw[h11];rfl)|simp[h11]) (a0e rfl) ?_
  refine JH.pgT 3 rfl (Gd.t1 rfl rfl rfl) (show(M.playedOk g)=true by first|exact h11|(rw[h11];rfl)|simp[h11]) (a0e rfl) ?_
  refine JH.pgT 4 rfl (Gd.t1 rfl rfl rfl) (show(M.playedOk g)=true by first|exact h11|(rw[h11];rfl)|simp[h11]) (p_len a3p rfl) ?_
  refine JH.pgT 5 rfl (Gd.t1 rfl rfl rfl) (show(M.playedOk g)=true by first|exact h11|(rw[h11];rfl)|simp[h11]) (p_sub rfl rfl (IntWalk.i64_in _ (by omega))) ?_
  obtain⟨y12,hy12⟩:∃ x,(M.playedP g)[((((M.playedP g).length):Int) - 1).toNat]?=some x:=⟨_,List.getElem?_eq_getElem (by omega)⟩
  obtain⟨b12,o12,A12_0,c12_0,A12_1,c12_1,he12,hr12,h12_0,h12_1,bl12_0,bh12_0,bl12_1,bh12_1⟩:=a7i h9 hy12
  refine JH.pgT 6 rfl (Gd.t1 rfl rfl rfl) (show(M.playedOk g)=true by first|exact h11|(rw[h11];rfl)|simp[h11]) (a0a a3p rfl rfl (by omega) (by omega) he12) ?_
  refine JH.wgT 7 rfl (Gd.t1 rfl rfl rfl) (show(M.playedOk g)=true by first|exact h11|(rw[h11];rfl)|simp[h11]) (λos' u' hv=>LS 0 (hr12.vis hv) rfl) ?_
  refine JH.pgT 8 rfl (Gd.t1 rfl rfl rfl) (show(M.playedOk g)=true by first|exact h11|(rw[h11];rfl)|simp[h11]) (a0b a1r.h rfl) ?_
  refine JH.qgT 9 rfl (Gd.t1 rfl rfl rfl) (show(M.playedOk g)=true by first|exact h11|(rw[h11];rfl)|simp[h11]) (L9 0 rfl rfl) ?_
  refine y1 10 ?_
  refine yvT rfl (Gd.t1 rfl rfl rfl) (show(M.playedOk g)=true by first|exact h11|(rw[h11];rfl)|simp[h11]) rfl (λw hw=>zq99 y12 g.now (ok_ hw) (ok_ hw) (r0:=(M.a9l hl2 hy12 (by omega) hl3).1) (r1:=(M.a9l hl2 hy12 (by omega) hl3).2)) ?_
  refine JH.p 11 rfl (a3k rfl rfl rfl) ?_
  refine jA 12 rfl rfl ?_
  refine yd ?_
  refine zR x8 ?_
  first|(simp only[outV];rw[M.okG_yes ho.1 ho.2.1 ho.2.2 (by assumption) (by assumption) (by omega)];simp[*];done)|(simp only[outV];rw[M.b1i (by assumption)];simp[*];done)
 have hl3:=M.a2a (M.a4b _ _ ho.1 (M.b0p g.moves _ ho.1))
 refine zdr [] ?_
 refine jM 0 rfl rfl ?_
 refine jM 1 rfl rfl ?_
 refine jU 2 rfl (Gd.t1 rfl rfl rfl) h11 ?_
 refine jU 3 rfl (Gd.t1 rfl rfl rfl) h11 ?_
 refine jU 4 rfl (Gd.t1 rfl rfl rfl) h11 ?_
 refine jU 5 rfl (Gd.t1 rfl rfl rfl) h11 ?_
 refine jU 6 rfl (Gd.t1 rfl rfl rfl) h11 ?_
 refine jU 7 rfl (Gd.t1 rfl rfl rfl) h11 ?_
 refine jU 8 rfl (Gd.t1 rfl rfl rfl) h11 ?_
 refine jU 9 rfl (Gd.t1 rfl rfl rfl) h11 ?_
 refine y1 10 ?_
 refine JHo.qg (v:=.bool false) rfl (Gd.t1 rfl rfl rfl) (λhc=>absurd hc (by first|(rw[h11];simp;done)|simp[h11])) ?_
 refine JH.p 11 rfl (a0d rfl rfl rfl) ?_
 refine jA 12 rfl rfl ?_
 refine yd ?_
 refine zR x8 ?_
 first|(simp only[outV];rw[M.okG_yes ho.1 ho.2.1 ho.2.2 (by assumption) (by assumption) (by omega)];simp[*];done)|(simp only[outV];rw[M.b1i (by assumption)];simp[*];done)
theorem zq2(n:Int){w:World}(h_tab:tabT.ok w undef)(r0 : -9223372036854775808<=n:=by exact om_)(r1:n<=9223372036854775807:=by exact om_):RetV Tryz.prog 50 [.int .i64 n] w (.string (sB (M.dec n))):=by
 refine enter @Tryz.func50 @Tryz.ntmps50 rfl rfl ?_
 refine zent ?_
 refine zS<|Qa rfl<|zN<|Qm rfl<|zv rfl (λw hw=>a6d n 10 (ok_ hw))<|Qa rfl<|JL.nil ?_
 exact zr (Up.refl _ _)
theorem zq30(ns:List Int){v_ns:Value}{w:World}(h_ns:(Ty.ints 2 ns).ok w v_ns)(h_tab:tabT.ok w undef)(r0:ns.length<=4194304:=by exact om_)(r1:M.Rng ns:=by exact om_):RetV Tryz.prog 129 [v_ns] w (.string (sB (M.joinT ns))):=by
 revert v_ns;apply opn
 intro A1 c1 h1 bl1 bh1
 have h_ns:=h1
 refine enter @Tryz.func129 @Tryz.ntmps129 rfl rfl ?_
 refine zent ?_
 refine zS<|Qa rfl<|zN<|Qa rfl<|zJ<|zS<|Qm rfl<|Qz rfl<|Qm rfl<|JL.nil<|Js.block ?_
 refine zl [6,7] (λF U l os u m=>∃ (k:Nat) (out:List UInt8),l=F [(3,.string (sB out)),(8,.int .i64 (k:Int))]/\os=U []/\(out=M.joinN ns k)/\(k<=ns.length)/\m=ns.length - k) ⟨0,([]:List UInt8),rfl,rfl,by rfl,zt,rfl⟩ ?_
 rintro _ _ u2 _ ⟨k,out,rfl,rfl,hJ,hk,rfl⟩ x2
 refine zn ?_
 have lb9:LenB out 92274688:=⟨M.b4k hJ (by omega)⟩
 obtain⟨n1,n2⟩:=M.Rng.nth r1 k
 refine zS<|Ql rfl rfl<|zJ ?_
 refine zi (λh3 h3'=>?_) λh3 h3'=>?_
 ·obtain⟨b4,o4,he4,hc4⟩:=a0l (Ty.mono _ h1 x2.vis) (i:=k) (by omega)
  refine Js.skip<|Js.seq<|Js.block<|zS<|Qm rfl<|Qq (a0a el_26 rfl rfl (by omega) (by omega) he4)<|QC hc4 rfl<|Qa rfl<|Qa rfl<|zJ<|zS<|Qm rfl<|Qg rfl rfl<|JL.nil ?_
  refine zi (λh5 h5'=>?_) λh5 h5'=>?_
  ·have hJ2:=M.joinN_p hJ (by have:=h5';omega)
   refine Js.region<|Qm rfl<|Qq (q_cat rfl rfl)<|Qa rfl<|zG<|Qm rfl<|Qm rfl<|zv rfl (λw hw=>zq2 (M.nth ns k) (ok_ hw))<|Qq (q_cat rfl rfl)<|Qa rfl<|JL.nil<|Js.blockEnd<|Js.region<|Qp rfl rfl ?_
   refine Qm rfl<|JL.nil ?_
   exact zag ⟨k + 1,(out++([44]:List UInt8))++(M.dec (M.nth ns k)),rfl,rfl,by exact hJ2,zt,rfl⟩ x2
  have hJ2:=M.joinN_z hJ (by have:=h5';omega)
  refine Js.skip<|Js.region<|Qm rfl<|Qm rfl<|zv rfl (λw hw=>zq2 (M.nth ns k) (ok_ hw))<|Qq (q_cat rfl rfl)<|Qa rfl<|JL.nil<|Js.blockEnd<|Js.region<|Qp rfl rfl<|Qm rfl<|JL.nil ?_
  exact zag ⟨k + 1,out++(M.dec (M.nth ns k)),rfl,rfl,by exact hJ2,zt,rfl⟩ x2
 have hE:=M.joinN_e hJ (by have:=h3';omega) hk
 refine zx ?_
 refine zS<|Qm rfl<|Qa rfl<|JL.nil ?_
 refine zR x2 ?_
 rw[hE];rfl
theorem zq50(r:M.Rul){v_r:Value}(p:M.Pos){v_p:Value}{w:World}(h_r:(Ty.agg (cRules r)).ok w v_r)(h_p:(Ty.agg (cPosition p)).ok w v_p)(h_tab:tabT.ok w undef)(r0:p.pits.length<=4194304:=by exact om_)(r1:p.stores.length<=4194304:=by exact om_):RetV Tryz.prog 73 [v_r,v_p] w (.string (sB (M.posTextR r p))):=by
 revert v_r;apply opn
 revert v_p;apply opn
 intro A1 c1 h1 bl1 bh1 A2 c2 h2 bl2 bh2
 refine enter @Tryz.func73 @Tryz.ntmps73 rfl rfl ?_
 refine zent ?_
 refine zS<|zb rfl λb3=>zb rfl λb4=>Qa rfl<|zJ<|zS<|Q9 1 rfl rfl ?_
 refine Q9 0 rfl rfl ?_
 refine zv rfl (λw hw=>zq23 r p (ok_ hw) (ok_ hw))<|Qt rfl<|JL.nil ?_
 refine zi (λh5 h5'=>?_) λh5 h5'=>?_
 ·have hno:M.okP r p=false:=by simpa using h5
  have hE:=M.b7b hno
  refine zS<|Qa rfl<|JL.nil ?_
  refine zR (Up.refl _ _) ?_
  first|(rw[hE];rfl)|(rw[hE,M.posText,<- hh];simp[outV,List.take_of_length_le])
 have hok:M.okP r p=true:=by simpa using h5
 have hE:=M.a3u hok
 obtain⟨g1,g2,g3,g4,g5,g6,g7⟩:=M.a0y hok
 have hh:=M.half hok
 have lj1:LenB (M.joinT (List.take (r.pits.toNat - 0) (List.drop 0 p.pits))) 352:=⟨by have:=M.a2k (List.take (r.pits.toNat - 0) (List.drop 0 p.pits));rw[List.length_take,List.length_drop] at this;omega⟩
 have lj2:LenB (M.joinT (List.take (p.pits.length - r.pits.toNat) (List.drop r.pits.toNat p.pits))) 352:=⟨by have:=M.a2k (List.take (p.pits.length - r.pits.toNat) (List.drop r.pits.toNat p.pits));rw[List.length_take,List.length_drop] at this;omega⟩
 have lj3:LenB (M.joinT p.stores) 352:=⟨by have:=M.a2k p.stores;omega⟩
 have ra:=M.Rng.ok g6
 have rb:=((M.Rng.ok g5).drop 0).take (r.pits.toNat - 0)
 have rc:=((M.Rng.ok g5).drop r.pits.toNat).take (p.pits.length - r.pits.toNat)
 refine Js.skip<|Js.seq ?_
 refine zdr [] ?_
 refine jF 0 a0v rfl rfl ?_
 refine jB 1 0 ty_2 rfl rfl rfl rfl ?_
 refine jF 4 a1a rfl rfl ?_
 refine jB 5 0 ty_26 rfl rfl rfl rfl ?_
 refine jF 6 a3d rfl rfl ?_
 refine jB 7 1 ty_2 rfl rfl rfl rfl ?_
 have hs6:=a7l (a:=0) (b:=r.pits.toNat) (m:=c1) h1 (by omega) (by omega) (by omega) (by omega)
 have hl6:((p.pits.drop 0).take (r.pits.toNat - 0)).length=r.pits.toNat - 0:=by rw[List.length_take,List.length_drop];omega
 refine JH.p 8 rfl (a9p (lo':=0) (hi':=r.pits.toNat) (mx':=c1) el_26 rfl rfl ⟨_,by rw[Int.toNat_of_nonneg (by omega)];exact rfl,by omega⟩ rfl) ?_
 refine jF 12 a1a rfl rfl ?_
 refine jB 13 0 ty_26 rfl rfl rfl rfl ?_
 refine jF 14 a3d rfl rfl ?_
 refine jB 15 1 ty_2 rfl rfl rfl rfl ?_
 have hs7:=a7l (a:=r.pits.toNat) (b:=p.pits.length) (m:=c1) h1 (by omega) (by omega) (by omega) (by omega)
 have hl7:((p.pits.drop r.pits.toNat).take (p.pits.length - r.pits.toNat)).length=p.pits.length - r.pits.toNat:=by rw[List.length_take,List.length_drop];omega
 refine JH.p 16 rfl (a9p (lo':=r.pits.toNat) (hi':=p.pits.length) (mx':=c1) el_26 rfl rfl ⟨rfl,rfl⟩ ⟨_,by rw[Int.toNat_of_nonneg (by omega)];exact rfl,by omega⟩) ?_
 refine jF 20 a0z rfl rfl ?_
 refine jB 21 0 ty_26 rfl rfl rfl rfl ?_
 refine y1 2 ?_
 refine yv rfl rfl (λw hw=>zq2 p.player (ok_ hw)) ?_
 refine JH.p 3 rfl (q_cat rfl rfl) ?_
 refine y1 9 ?_
 refine yv rfl rfl (λw hw=>zq30 ((p.pits.drop 0).take (r.pits.toNat - 0)) (ok_ hw) (ok_ hw) (r0:=(by first|omega|(simp only[List.length_take,List.length_drop];omega))) (r1:=(by first|exact ra|exact rb|exact rc))) ?_
 refine JH.p 10 rfl (q_cat rfl rfl) ?_
 refine JH.p 11 rfl (q_cat rfl rfl) ?_
 refine y1 17 ?_
 refine yv rfl rfl (λw hw=>zq30 ((p.pits.drop r.pits.toNat).take (p.pits.length - r.pits.toNat)) (ok_ hw) (ok_ hw) (r0:=(by first|omega|(simp only[List.length_take,List.length_drop];omega))) (r1:=(by first|exact ra|exact rb|exact rc))) ?_
 refine JH.p 18 rfl (q_cat rfl rfl) ?_
 refine JH.p 19 rfl (q_cat rfl rfl) ?_
 refine y1 22 ?_
 refine yv rfl rfl (λw hw=>zq30 p.stores (ok_ hw) (ok_ hw) (r0:=(by first|omega|(simp only[List.length_take,List.length_drop];omega))) (r1:=(by first|exact ra|exact rb|exact rc))) ?_
 refine JH.p 23 rfl (q_cat rfl rfl) ?_
 refine jA 24 rfl rfl ?_
 refine yd ?_
 refine zR (Up.refl _ _) ?_
 first|(rw[hE];rfl)|(rw[hE,M.posText,<- hh];simp[outV,List.take_of_length_le])
end Go.Proofs.YtjgohnaobbphpaaGreatDoor

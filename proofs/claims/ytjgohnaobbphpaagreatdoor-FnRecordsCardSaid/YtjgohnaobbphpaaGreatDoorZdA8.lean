/- Walks: D5. -/
import Derived.Test.YtjgohnaobbphpaaGreatDoorZdA4
import Derived.Test.YtjgohnaobbphpaaGreatDoorZdA7
import Derived.Test.YtjgohnaobbphpaaGreatDoorZdA1
import Derived.Test.YtjgohnaobbphpaaGreatDoorZdA6
import Derived.Test.YtjgohnaobbphpaaGreatDoorZdA2
set_option linter.unusedSimpArgs false
set_option linter.unusedVariables false
set_option maxRecDepth 100000
attribute [local irreducible] Go.Proofs.YtjgohnaobbphpaaGreatDoor.gv
set_option maxHeartbeats 4000000
namespace Go.Proofs.YtjgohnaobbphpaaGreatDoor
open Go.RowKit
theorem zq97(c1c:Nat)(s_at s_seed:Int){As_0:Option Addr}{cs_0 bs:Nat}{w:World}(hb:Bw w [boxO bs [.slice As_0 c1c cs_0,.int .i64 s_at,.int .u64 s_seed] 141])(hps_0:(Ty.bytes 5 c1c).ok (offW w (([boxO bs [.slice As_0 c1c cs_0,.int .i64 s_at,.int .u64 s_seed] 141]:List Own).flatMap (·.fp))) (.slice As_0 c1c cs_0))(r0:0<=s_at:=by exact om_)(r1:s_at<=999998000:=by exact om_)(r2:c1c<=1048576:=by exact om_):RetB Tryz.prog 69 [.pointer (some ⟨bs,0,none⟩)] w [boxO bs [.slice As_0 c1c cs_0,.int .i64 s_at,.int .u64 s_seed] 141] (λv bs'=>∃ (GX:M.Gam) (AT SD:Int) (Axr_9:Option Addr) (cxr_9:Nat) (gxr_9:List Nat) (Axr_10:Option Addr) (cxr_10:Nat) (gxr_10:List Nat) (Axr_12:Option Addr) (cxr_12:Nat) (gxr_12:List Nat) (Axr_13:Option Addr) (cxr_13:Nat) (gxr_13:List Nat) (Axr_14:Option Addr) (cxr_14:Nat) (gxr_14:List Nat),v=.agg #[.int .i64 GX.rules.pits,.int .i64 GX.rules.seeds,.bool GX.rules.stores,.bool GX.rules.skip,.bool GX.rules.relay,.bool GX.rules.feed,.bool GX.rules.again,.int .i64 GX.rules.capture,.int .i64 GX.rules.slam,.slice Axr_9 GX.start.pits.length cxr_9,.slice Axr_10 GX.start.stores.length cxr_10,.int .i64 GX.start.player,.slice Axr_12 GX.moves.length cxr_12,.slice Axr_13 GX.now.pits.length cxr_13,.slice Axr_14 GX.now.stores.length cxr_14,.int .i64 GX.now.player,.int .i64 GX.resigned]/\bs'=[boxO bs [.slice As_0 c1c cs_0,.int .i64 AT,.int .u64 SD] 141,rowO 2 1 (.slice Axr_9 GX.start.pits.length cxr_9) GX.start.pits.length (ints_ GX.start.pits) gxr_9,rowO 2 1 (.slice Axr_10 GX.start.stores.length cxr_10) GX.start.stores.length (ints_ GX.start.stores) gxr_10,rowO 2 1 (.slice Axr_12 GX.moves.length cxr_12) GX.moves.length (ints_ GX.moves) gxr_12,rowO 2 1 (.slice Axr_13 GX.now.pits.length cxr_13) GX.now.pits.length (ints_ GX.now.pits) gxr_13,rowO 2 1 (.slice Axr_14 GX.now.stores.length cxr_14) GX.now.stores.length (ints_ GX.now.stores) gxr_14]/\GX.start.pits.length<=cxr_9/\cxr_9<=9223372036854775807/\GX.start.stores.length<=cxr_10/\cxr_10<=9223372036854775807/\GX.moves.length<=cxr_12/\cxr_12<=9223372036854775807/\GX.now.pits.length<=cxr_13/\cxr_13<=9223372036854775807/\GX.now.stores.length<=cxr_14/\cxr_14<=9223372036854775807/\(GX.start.pits.length<=4194304/\GX.start.stores.length<=4194304/\GX.moves.length<=122/\GX.now.pits.length<=4194304/\GX.now.stores.length=2)/\(s_at<=AT)/\(AT<=s_at + 2000)):=by
 refine enterB hb @Tryz.func69 @Tryz.ntmps69 rfl rfl ?_
 refine zent ?_
 refine Js.trashE ?_
 refine zn ?_
 refine zS<|za zeh λb1=>zN<|Qm rfl ?_
 refine zhl [1] ?_
 refine zBB 1 sp_ rfl (λw hb _ hw=>zq142 c1c s_at s_seed 12 hb (ok_ hw)) ?_
 rintro _ _ G2 ⟨X2GX,X2AT,X2SD,A2r_9,c2r_9,g2r_9,A2r_10,c2r_10,g2r_10,A2r_12,c2r_12,g2r_12,A2r_13,c2r_13,g2r_13,A2r_14,c2r_14,g2r_14,rfl,rfl,bl2_0,bl2_1,bl2_2,bl2_3,bl2_4,bl2_5,bl2_6,bl2_7,bl2_8,bl2_9,hX2_0,hX2_1,hX2_2⟩
 refine znl ?_
 refine za zeh λb3=>zw 0 rfl rfl rfl ?_
 refine JL.nil ?_
 refine zf [0,0,0,0,0,0,0,1] λGG4=>?_
 refine zn ?_
 refine Js.seq<|zS<|Qm rfl ?_
 refine zhl [1] ?_
 refine zBB 1 sp_ rfl (λw hb _ hw=>zq1 c1c X2AT X2SD 16 hb (ok_ hw)) ?_
 rintro _ _ G5 ⟨X5BX,X5AT,X5SD,rfl,rfl,hX5_0,hX5_1⟩
 refine znl ?_
 refine JL.nil ?_
 refine zf [0,1,1,1,1,1,1,1] λGG6=>?_
 refine zn ?_
 refine zk [0,2,3] (λF U l os u=>∃ (gk:M.Gam) (at1 sd1:Int) (A7_3_9:Option Addr) (c7_3_9:Nat) (g7_3_9:List Nat) (A7_3_10:Option Addr) (c7_3_10:Nat) (g7_3_10:List Nat) (A7_3_12:Option Addr) (c7_3_12:Nat) (g7_3_12:List Nat) (A7_3_13:Option Addr) (c7_3_13:Nat) (g7_3_13:List Nat) (A7_3_14:Option Addr) (c7_3_14:Nat) (g7_3_14:List Nat) (G7_8:List Nat),l=F []/\os=U [some (boxO bs [.slice As_0 c1c cs_0,.int .i64 at1,.int .u64 sd1] 141),some (boxO b3 [.int .i64 gk.rules.pits,.int .i64 gk.rules.seeds,.bool gk.rules.stores,.bool gk.rules.skip,.bool gk.rules.relay,.bool gk.rules.feed,.bool gk.rules.again,.int .i64 gk.rules.capture,.int .i64 gk.rules.slam,.slice A7_3_9 gk.start.pits.length c7_3_9,.slice A7_3_10 gk.start.stores.length c7_3_10,.int .i64 gk.start.player,.slice A7_3_12 gk.moves.length c7_3_12,.slice A7_3_13 gk.now.pits.length c7_3_13,.slice A7_3_14 gk.now.stores.length c7_3_14,.int .i64 gk.now.player,.int .i64 gk.resigned] 53),some (rowO 2 1 (.slice A7_3_9 gk.start.pits.length c7_3_9) gk.start.pits.length (ints_ gk.start.pits) g7_3_9),some (rowO 2 1 (.slice A7_3_10 gk.start.stores.length c7_3_10) gk.start.stores.length (ints_ gk.start.stores) g7_3_10),some (rowO 2 1 (.slice A7_3_12 gk.moves.length c7_3_12) gk.moves.length (ints_ gk.moves) g7_3_12),some (rowO 2 1 (.slice A7_3_13 gk.now.pits.length c7_3_13) gk.now.pits.length (ints_ gk.now.pits) g7_3_13),some (rowO 2 1 (.slice A7_3_14 gk.now.stores.length c7_3_14) gk.now.stores.length (ints_ gk.now.stores) g7_3_14),nO,some (anyO G7_8)]/\(M.Small gk)/\(gk.moves.length<=121)/\(gk.now.stores.length=2)/\(s_at<=at1)/\(at1<=s_at + 1010)/\(gk.start.pits.length<=c7_3_9)/\(c7_3_9<=9223372036854775807)/\(gk.start.stores.length<=c7_3_10)/\(c7_3_10<=9223372036854775807)/\(gk.moves.length<=c7_3_12)/\(c7_3_12<=9223372036854775807)/\(gk.now.pits.length<=c7_3_13)/\(c7_3_13<=9223372036854775807)/\(gk.now.stores.length<=c7_3_14)/\(c7_3_14<=9223372036854775807)) ?_ ?_
 ·refine zi (λh8 h8'=>?_) λh8 h8'=>?_
  ·refine Js.region<|Qm rfl<|zbs λb9=>?_
   refine zhl [1] ?_
   refine zBB 1 sp_ rfl (λw hb _ hw=>zq41 c1c X5AT X5SD [4,8,12,119,120] hb (ok_ hw) (a2e (xs:=[4,8,12,119,120]) (hw.pr (i:=0) rfl)) (r3:=(by simp)) (r4:=(by simp))) ?_
   rintro _ _ G11 ⟨X11KX,X11AT,X11SD,rfl,rfl,hX11_0,hX11_1,hX11_2⟩
   refine znl ?_
   refine zc rfl (λw hw=>zq143 X11KX (r0:=(by have h9:=(by assumption:_∈([4,8,12,119,120]:List Int));simp at h9;omega)) (r1:=(by have h9:=(by assumption:_∈([4,8,12,119,120]:List Int));simp at h9;omega))) ?_
   intro X12 hX12 A14 c14 bl14 bh14 A15 c15 bl15 bh15 A16 c16 bl16 bh16 A17 c17 bl17 bh17 A18 c18 bl18 bh18
   refine zw 8 rfl rfl rfl ?_
   refine JL.nil ?_
   refine zf [0,0,0,0,0,0,2,2,2,2,2,2,2] λGG19=>?_
   refine zn ?_
   refine zf [5,5,4,3,2,1,0,5] λGG20=>?_
   refine zn ?_
   exact zm ⟨(X12),(X11AT),(X11SD),_,_,_,_,_,_,_,_,_,_,_,_,_,_,_,_,rfl,rfl,by exact And.left (b:=_/\_) (by assumption),by first|assumption|omega|rfl|(dsimp only;omega)|(simp;done),by first|assumption|omega|rfl|(dsimp only;omega)|(simp;done),by first|assumption|omega|rfl|(dsimp only;omega)|(simp;done),by first|assumption|omega|rfl|(dsimp only;omega)|(simp;done),by first|assumption|omega|rfl|(dsimp only;omega)|(simp;done),by first|assumption|omega|rfl|(dsimp only;omega)|(simp;done),by first|assumption|omega|rfl|(dsimp only;omega)|(simp;done),by first|assumption|omega|rfl|(dsimp only;omega)|(simp;done),by first|assumption|omega|rfl|(dsimp only;omega)|(simp;done),by first|assumption|omega|rfl|(dsimp only;omega)|(simp;done),by first|assumption|omega|rfl|(dsimp only;omega)|(simp;done),by first|assumption|omega|rfl|(dsimp only;omega)|(simp;done),by first|assumption|omega|rfl|(dsimp only;omega)|(simp;done),by first|assumption|omega|rfl|(dsimp only;omega)|(simp;done)⟩ (Up.refl _ _)
  refine Js.skip ?_
  exact zm ⟨(X2GX),(X5AT),(X5SD),_,_,_,_,_,_,_,_,_,_,_,_,_,_,_,_,rfl,rfl,by exact And.left (b:=_/\_) (by assumption),by first|assumption|omega|rfl|(dsimp only;omega)|(simp;done),by first|assumption|omega|rfl|(dsimp only;omega)|(simp;done),by first|assumption|omega|rfl|(dsimp only;omega)|(simp;done),by first|assumption|omega|rfl|(dsimp only;omega)|(simp;done),by first|assumption|omega|rfl|(dsimp only;omega)|(simp;done),by first|assumption|omega|rfl|(dsimp only;omega)|(simp;done),by first|assumption|omega|rfl|(dsimp only;omega)|(simp;done),by first|assumption|omega|rfl|(dsimp only;omega)|(simp;done),by first|assumption|omega|rfl|(dsimp only;omega)|(simp;done),by first|assumption|omega|rfl|(dsimp only;omega)|(simp;done),by first|assumption|omega|rfl|(dsimp only;omega)|(simp;done),by first|assumption|omega|rfl|(dsimp only;omega)|(simp;done),by first|assumption|omega|rfl|(dsimp only;omega)|(simp;done),by first|assumption|omega|rfl|(dsimp only;omega)|(simp;done)⟩ (Up.refl _ _)
 rintro _ _ u7 ⟨gk,at1,sd1,A7_3_9,c7_3_9,g7_3_9,A7_3_10,c7_3_10,g7_3_10,A7_3_12,c7_3_12,g7_3_12,A7_3_13,c7_3_13,g7_3_13,A7_3_14,c7_3_14,g7_3_14,G7_8,rfl,rfl,hs,hm,hst,ha0,ha1,f7_5,f7_6,f7_7,f7_8,f7_9,f7_10,f7_11,f7_12,f7_13,f7_14⟩ x7
 refine zn ?_
 have s1:=hs.sp
 have s2:=hs.ss
 have s3:=hs.m
 have s4:=hs.np
 have s5:=hs.ns
 refine Js.seq<|zS<|Qm rfl<|zBB 1 sp_ rfl (λw hb _ hw=>zq0 c1c at1 sd1 30 hb (ok_ hw)) ?_
 rintro _ _ G21 ⟨X21KX,X21AT,X21SD,rfl,rfl,hX21_0,hX21_1,hX21_2,hX21_3⟩
 refine znl ?_
 refine JL.nil ?_
 refine zf [0,1,1,1,1,1,1,1] λGG22=>?_
 refine zn ?_
 refine Js.block<|zS<|Qe rfl rfl<|Qa rfl<|JL.nil ?_
 refine zi (λh23 h23'=>?_) λh23 h23'=>?_
 ·refine Js.region<|Qm rfl<|zbs λb24=>?_
  refine zhl [1] ?_
  refine zBB 1 sp_ rfl (λw hb _ hw=>zq41 c1c X21AT X21SD [(-2),2,0,1] hb (ok_ hw) (a2e (xs:=[(-2),2,0,1]) (hw.pr (i:=0) rfl)) (r3:=(by simp)) (r4:=(by simp))) ?_
  rintro _ _ G26 ⟨X26KX,X26AT,X26SD,rfl,rfl,hX26_0,hX26_1,hX26_2⟩
  refine znl ?_
  refine Qf fh rfl<|zw 3 rfl rfl rfl ?_
  refine JL.nil ?_
  refine zf [0,2,2,2,2,2,2,2] λGG27=>?_
  refine zn ?_
  refine Js.blockEnd<|zS<|Q9 1 rfl rfl ?_
  refine zw 7 rfl rfl rfl ?_
  refine JL.nil ?_
  refine zf [0,1,1,1,1,1,1] λGG28=>?_
  refine zn ?_
  refine zrb [0,0,0,0,0,0] hb x7 ?_
  refine⟨((M.Gam.mk gk.rules gk.start gk.moves gk.now X26KX)),(X26AT),(X26SD),A7_3_9,c7_3_9,g7_3_9,A7_3_10,c7_3_10,g7_3_10,A7_3_12,c7_3_12,g7_3_12,A7_3_13,c7_3_13,g7_3_13,A7_3_14,c7_3_14,g7_3_14,rfl, ?_, ?_, ?_, ?_, ?_, ?_, ?_, ?_, ?_, ?_, ?_,by first|exact xb5_ hs hst|trivial|omega,by first|exact xb5_ hs hst|trivial|omega,by first|exact xb5_ hs hst|trivial|omega⟩
  · rfl
  all_goals (try dsimp only)
  all_goals (first|(omega)|omega|(simp only[*];omega)|(simp;done))
 refine zS<|Qe rfl rfl<|Qa rfl<|JL.nil ?_
 refine zi (λh29 h29'=>?_) λh29 h29'=>?_
 ·refine zk [2,3] (λF U l os u=>∃ (b31:Nat) (X30KX:Int) (G30:List Nat) (X30AT X30SD:Int) (A35:Option Addr) (c35:Nat) (g34:List Nat),l=F []/\os=[rowO 2 1 (.slice (some ⟨b31,0,none⟩) 1 1) 1 [.int .i64 X30KX] [],anyO G30]++U [some (boxO bs [.slice As_0 c1c cs_0,.int .i64 X30AT,.int .u64 X30SD] 141),some (boxO b3 [.int .i64 gk.rules.pits,.int .i64 gk.rules.seeds,.bool gk.rules.stores,.bool gk.rules.skip,.bool gk.rules.relay,.bool gk.rules.feed,.bool gk.rules.again,.int .i64 gk.rules.capture,.int .i64 gk.rules.slam,.slice A7_3_9 gk.start.pits.length c7_3_9,.slice A7_3_10 gk.start.stores.length c7_3_10,.int .i64 gk.start.player,.slice A35 ((gk.moves++[X30KX]).length) c35,.slice A7_3_13 gk.now.pits.length c7_3_13,.slice A7_3_14 gk.now.stores.length c7_3_14,.int .i64 gk.now.player,.int .i64 gk.resigned] 53),nO,nO,some (rowO 2 1 (.slice A35 ((gk.moves++[X30KX]).length) c35) ((gk.moves++[X30KX]).length) (ints_ (gk.moves++[X30KX])) g34)]/\((gk.moves++[X30KX]).length<=c35)/\(c35<=9223372036854775807)/\(0<=X30KX)/\(X30KX=0\/X30KX < 4)/\(X21AT<=X30AT)/\(X30AT<=X21AT + 2)) ?_ ?_
  ·refine zdr [3,5,7] ?_
   refine jF 0 a0x rfl rfl ?_
   refine jM 2 rfl rfl ?_
   refine y2 1 3 ?_ ?_
   ·refine JHo.q rfl (a0c ty_26.h rfl (Mem.box (i:=1) rfl rfl)) ?_
    refine y1 3 ?_
    refine yBB 1 sp_ rfl rfl (λw hb _ hw=>zq0 c1c X21AT X21SD 4 hb (ok_ hw)) ?_
    rintro _ _ G48 ⟨X48KX,X48AT,X48SD,rfl,rfl,hX48_0,hX48_1,hX48_2,hX48_3⟩
    refine znh ?_
    refine y1 4 ?_
    refine ybs rfl λb49=>?_
    refine y1 5 ?_
    refine JHo.e rfl (a0g (i:=6) (n':=(gk.moves++[X48KX]).length) (vs':=ints_ (gk.moves++[X48KX])) el_26 rfl rfl rfl rfl (a0k (i:=0) a1h rfl rfl) (by omega) (by omega) ln2_ (by simp[ints_])) (.inr rfl) ?_
    rintro v51 _ _ ⟨⟨g52,rfl⟩,rfl⟩ _
    refine JH.fact (row_form' (i:=6) rfl) (λhf53=>?_)
    obtain⟨A53,c53,rfl,bl53,bh53⟩:=hf53
    refine znh ?_
    refine jF 6 a0x rfl rfl ?_
    refine y1 7 ?_
    refine yst rfl rfl rfl ?_
    refine yd ?_
    refine zh [0,1,0,0,0,0,0,0,0,0,0] ?_
    exact zm ⟨_,_,_,_,_,_,_,_,rfl,rfl,zt,zt,zt,zt,zt,zt⟩ (Up.refl _ _) ⟨rfl,rfl,trivial⟩
   refine yBB 1 sp_ rfl rfl (λw hb _ hw=>zq0 c1c X21AT X21SD 4 hb (ok_ hw)) ?_
   rintro _ _ G54 ⟨X54KX,X54AT,X54SD,rfl,rfl,hX54_0,hX54_1,hX54_2,hX54_3⟩
   refine znh ?_
   refine y2 1 4 ?_ ?_
   ·refine JHo.q rfl (a0c ty_26.h rfl (Mem.box (i:=2) rfl rfl)) ?_
    refine y1 4 ?_
    refine ybs rfl λb55=>?_
    refine y1 5 ?_
    refine JHo.e rfl (a0g (i:=6) (n':=(gk.moves++[X54KX]).length) (vs':=ints_ (gk.moves++[X54KX])) el_26 rfl rfl rfl rfl (a0k (i:=0) a1h rfl rfl) (by omega) (by omega) ln2_ (by simp[ints_])) (.inr rfl) ?_
    rintro v57 _ _ ⟨⟨g58,rfl⟩,rfl⟩ _
    refine JH.fact (row_form' (i:=6) rfl) (λhf59=>?_)
    obtain⟨A59,c59,rfl,bl59,bh59⟩:=hf59
    refine znh ?_
    refine jF 6 a0x rfl rfl ?_
    refine y1 7 ?_
    refine yst rfl rfl rfl ?_
    refine yd ?_
    refine zh [0,1,0,0,0,0,0,0,0,0,0] ?_
    exact zm ⟨_,_,_,_,_,_,_,_,rfl,rfl,zt,zt,zt,zt,zt,zt⟩ (Up.refl _ _) ⟨rfl,rfl,trivial⟩
   refine ybs rfl λb60=>?_
   refine y1 1 ?_
   refine JHo.q rfl (a0c ty_26.h rfl (Mem.box (i:=3) rfl rfl)) ?_
   refine y1 5 ?_
   refine JHo.e rfl (a0g (i:=6) (n':=(gk.moves++[X54KX]).length) (vs':=ints_ (gk.moves++[X54KX])) el_26 rfl rfl rfl rfl (a0k (i:=0) a1h rfl rfl) (by omega) (by omega) ln2_ (by simp[ints_])) (.inr rfl) ?_
   rintro v62 _ _ ⟨⟨g63,rfl⟩,rfl⟩ _
   refine JH.fact (row_form' (i:=6) rfl) (λhf64=>?_)
   obtain⟨A64,c64,rfl,bl64,bh64⟩:=hf64
   refine znh ?_
   refine jF 6 a0x rfl rfl ?_
   refine y1 7 ?_
   refine yst rfl rfl rfl ?_
   refine yd ?_
   refine zh [0,1,0,0,0,0,0,0,0,0,0] ?_
   exact zm ⟨_,_,_,_,_,_,_,_,rfl,rfl,zt,zt,zt,zt,zt,zt⟩ (Up.refl _ _) ⟨rfl,rfl,trivial⟩
  rintro _ _ u47 ⟨b31,X30KX,G30,X30AT,X30SD,A35,c35,g34,rfl,rfl,f47_0,f47_1,f47_2,f47_3,f47_4,f47_5⟩ x47
  refine zn ?_
  refine zf [2,2,2,2,2,2,2,2] λGG65=>?_
  refine zn ?_
  refine Js.blockEnd<|zS<|Q9 1 rfl rfl ?_
  refine zw 7 rfl rfl rfl ?_
  refine JL.nil ?_
  refine zf [0,1,1,1,1,1,1] λGG66=>?_
  refine zn ?_
  refine zrb [0,0,0,0,0,0] hb (x7.trans x47) ?_
  refine⟨((M.Gam.mk gk.rules gk.start (gk.moves++[X30KX]) gk.now gk.resigned)),(X30AT),(X30SD),A7_3_9,c7_3_9,g7_3_9,A7_3_10,c7_3_10,g7_3_10,A35,c35,g34,A7_3_13,c7_3_13,g7_3_13,A7_3_14,c7_3_14,g7_3_14,rfl, ?_, ?_, ?_, ?_, ?_, ?_, ?_, ?_, ?_, ?_, ?_,by first|exact xb5_ hs hst|trivial|omega,by first|exact xb5_ hs hst|trivial|omega,by first|exact xb5_ hs hst|trivial|omega⟩
  · rfl
  all_goals (try dsimp only)
  all_goals (first|(omega)|omega|(simp only[*];omega)|(simp;done))
 refine zS<|Qe rfl rfl<|Qa rfl<|JL.nil ?_
 refine zi (λh67 h67'=>?_) λh67 h67'=>?_
 ·refine Js.region<|Qf fh rfl<|Qf fh rfl<|Q0 1 rfl rfl rfl<|Qq (p_sub rfl rfl rfl)<|Qf fh rfl<|Qf fh rfl<|zw 1 rfl rfl rfl ?_
  refine JL.nil<|Js.blockEnd<|zS<|Q9 1 rfl rfl ?_
  refine zw 7 rfl rfl rfl ?_
  refine JL.nil ?_
  refine zf [0,1,1,1,1,1,1] λGG68=>?_
  refine zn ?_
  refine zrb [0,0,0,0,0,0] hb x7 ?_
  refine⟨((M.Gam.mk gk.rules gk.start gk.moves (M.Pos.mk gk.now.pits gk.now.stores (IntKind.i64.wrap (1 - gk.now.player))) gk.resigned)),(X21AT),(X21SD),A7_3_9,c7_3_9,g7_3_9,A7_3_10,c7_3_10,g7_3_10,A7_3_12,c7_3_12,g7_3_12,A7_3_13,c7_3_13,g7_3_13,A7_3_14,c7_3_14,g7_3_14,rfl, ?_, ?_, ?_, ?_, ?_, ?_, ?_, ?_, ?_, ?_, ?_,by first|exact xb5_ hs hst|trivial|omega,by first|exact xb5_ hs hst|trivial|omega,by first|exact xb5_ hs hst|trivial|omega⟩
  · rfl
  all_goals (try dsimp only)
  all_goals (first|(omega)|omega|(simp only[*];omega)|(simp;done))
 refine zS<|Qe rfl rfl<|Qa rfl<|JL.nil ?_
 refine zi (λh69 h69'=>?_) λh69 h69'=>?_
 ·refine Js.region<|Qf fh rfl<|Qf fh rfl<|Q0 1 rfl rfl rfl ?_
  refine JL.fact (a0s (i:=6) rfl (by omega)) (λhf71=>?_)
  obtain⟨b71,rfl⟩:=hf71
  refine Qq (a0a el_26 rfl rfl (by omega) (by omega) rfl)<|Qw (a0c ty_2.h rfl (Mem.row (i:=6) rfl (a9b (i:=0) (by omega))))<|Qq (p_add rfl rfl rfl)<|Qq (a0a el_26 rfl rfl (by omega) (by omega) rfl) ?_
  refine JL.s (a0i (i:=6) (xs':=ints_ (gk.now.stores.set 0 (IntKind.i64.wrap ((M.nth gk.now.stores 0) + 1)))) ty_2.h rfl rfl rfl rfl rfl rfl (a0q (i:=0) (by omega)) (a0m (i:=0) (by omega))) ?_
  rintro _ _ _ ⟨rfl,rfl⟩ _
  refine znl ?_
  refine JL.nil<|Js.blockEnd<|zS<|Q9 1 rfl rfl ?_
  refine zw 7 rfl rfl rfl ?_
  refine JL.nil ?_
  refine zf [0,1,1,1,1,1,1] λGG73=>?_
  refine zn ?_
  refine zrb [0,0,0,0,0,0] hb x7 ?_
  have hNr14:(gk.now.stores.set 0 (IntKind.i64.wrap ((M.nth gk.now.stores 0) + 1))).length=gk.now.stores.length:=by first|rfl|assumption|omega|(simp only[List.length_set,M.a0h];done)|(simp only[List.length_set,M.a0h];first|rfl|assumption|omega)
  refine⟨((M.Gam.mk gk.rules gk.start gk.moves (M.Pos.mk gk.now.pits (gk.now.stores.set 0 (IntKind.i64.wrap ((M.nth gk.now.stores 0) + 1))) gk.now.player) gk.resigned)),(X21AT),(X21SD),A7_3_9,c7_3_9,g7_3_9,A7_3_10,c7_3_10,g7_3_10,A7_3_12,c7_3_12,g7_3_12,A7_3_13,c7_3_13,g7_3_13,(some ⟨b71,0,none⟩),c7_3_14,g7_3_14,(show(.agg #[.int .i64 gk.rules.pits,.int .i64 gk.rules.seeds,.bool gk.rules.stores,.bool gk.rules.skip,.bool gk.rules.relay,.bool gk.rules.feed,.bool gk.rules.again,.int .i64 gk.rules.capture,.int .i64 gk.rules.slam,.slice A7_3_9 gk.start.pits.length c7_3_9,.slice A7_3_10 gk.start.stores.length c7_3_10,.int .i64 gk.start.player,.slice A7_3_12 gk.moves.length c7_3_12,.slice A7_3_13 gk.now.pits.length c7_3_13,.slice (some ⟨b71,0,none⟩) gk.now.stores.length c7_3_14,.int .i64 gk.now.player,.int .i64 gk.resigned]:Value)=.agg #[.int .i64 gk.rules.pits,.int .i64 gk.rules.seeds,.bool gk.rules.stores,.bool gk.rules.skip,.bool gk.rules.relay,.bool gk.rules.feed,.bool gk.rules.again,.int .i64 gk.rules.capture,.int .i64 gk.rules.slam,.slice A7_3_9 gk.start.pits.length c7_3_9,.slice A7_3_10 gk.start.stores.length c7_3_10,.int .i64 gk.start.player,.slice A7_3_12 gk.moves.length c7_3_12,.slice A7_3_13 gk.now.pits.length c7_3_13,.slice (some ⟨b71,0,none⟩) (gk.now.stores.set 0 (IntKind.i64.wrap ((M.nth gk.now.stores 0) + 1))).length c7_3_14,.int .i64 gk.now.player,.int .i64 gk.resigned] by rw[hNr14]), ?_, ?_, ?_, ?_, ?_, ?_, ?_, ?_, ?_, ?_, ?_,by first|exact xb5_ hs hst|trivial|omega,by first|exact xb5_ hs hst|trivial|omega,by first|exact xb5_ hs hst|trivial|omega⟩
  · exact r5_ hNr14
  all_goals (try dsimp only)
  all_goals (first|(rw[hNr14];omega)|omega|(simp only[*];omega)|(simp;done))
 refine zS<|Qe rfl rfl<|Qa rfl<|JL.nil ?_
 refine zi (λh74 h74'=>?_) λh74 h74'=>?_
 ·refine Js.region<|Qm rfl<|zbs λb75=>?_
  refine zhl [1] ?_
  refine zBB 1 sp_ rfl (λw hb _ hw=>zq41 c1c X21AT X21SD [1,3,9] hb (ok_ hw) (a2e (xs:=[1,3,9]) (hw.pr (i:=0) rfl)) (r3:=(by simp)) (r4:=(by simp))) ?_
  rintro _ _ G77 ⟨X77KX,X77AT,X77SD,rfl,rfl,hX77_0,hX77_1,hX77_2⟩
  refine znl ?_
  refine Qf fh rfl<|Qf fh rfl<|zw 3 rfl rfl rfl ?_
  refine JL.nil ?_
  refine zf [0,2,2,2,2,2,2,2] λGG78=>?_
  refine zn ?_
  refine Js.blockEnd<|zS<|Q9 1 rfl rfl ?_
  refine zw 7 rfl rfl rfl ?_
  refine JL.nil ?_
  refine zf [0,1,1,1,1,1,1] λGG79=>?_
  refine zn ?_
  refine zrb [0,0,0,0,0,0] hb x7 ?_
  refine⟨((M.Gam.mk (M.Rul.mk X77KX gk.rules.seeds gk.rules.stores gk.rules.skip gk.rules.relay gk.rules.feed gk.rules.again gk.rules.capture gk.rules.slam) gk.start gk.moves gk.now gk.resigned)),(X77AT),(X77SD),A7_3_9,c7_3_9,g7_3_9,A7_3_10,c7_3_10,g7_3_10,A7_3_12,c7_3_12,g7_3_12,A7_3_13,c7_3_13,g7_3_13,A7_3_14,c7_3_14,g7_3_14,rfl, ?_, ?_, ?_, ?_, ?_, ?_, ?_, ?_, ?_, ?_, ?_,by first|exact xb5_ hs hst|trivial|omega,by first|exact xb5_ hs hst|trivial|omega,by first|exact xb5_ hs hst|trivial|omega⟩
  · rfl
  all_goals (try dsimp only)
  all_goals (first|(omega)|omega|(simp only[*];omega)|(simp;done))
 refine zS<|Qe rfl rfl<|Qa rfl<|JL.nil ?_
 refine zi (λh80 h80'=>?_) λh80 h80'=>?_
 ·refine zS<|Qf fh rfl<|Q0 1 rfl rfl rfl<|Qz rfl<|Qg rfl rfl<|JL.nil ?_
  refine zi (λh81 h81'=>?_) λh81 h81'=>?_
  ·refine zk [2,3] (λF U l os u=>∃ (G82:List Nat) (X82AT X82SD:Int) (b84:Nat) (X82KX:Int),l=F []/\os=[anyO G82]++U [some (boxO bs [.slice As_0 c1c cs_0,.int .i64 X82AT,.int .u64 X82SD] 141),some (boxO b3 [.int .i64 gk.rules.pits,.int .i64 gk.rules.seeds,.bool gk.rules.stores,.bool gk.rules.skip,.bool gk.rules.relay,.bool gk.rules.feed,.bool gk.rules.again,.int .i64 gk.rules.capture,.int .i64 gk.rules.slam,.slice A7_3_9 gk.start.pits.length c7_3_9,.slice A7_3_10 gk.start.stores.length c7_3_10,.int .i64 gk.start.player,.slice (some ⟨b84,0,none⟩) gk.moves.length c7_3_12,.slice A7_3_13 gk.now.pits.length c7_3_13,.slice A7_3_14 gk.now.stores.length c7_3_14,.int .i64 gk.now.player,.int .i64 gk.resigned] 53),nO,nO,some (rowO 2 1 (.slice (some ⟨b84,0,none⟩) gk.moves.length c7_3_12) gk.moves.length (ints_ (gk.moves.set 0 (X82KX - 1))) g7_3_12)]/\(X21AT<=X82AT)/\(X82AT<=X21AT + 2)/\(0<=X82KX)/\(X82KX=0\/X82KX < 6)) ?_ ?_
   ·refine zdr [3,6] ?_
    refine jF 0 a0x rfl rfl ?_
    refine jM 2 rfl rfl ?_
    refine y2 1 3 ?_ ?_
    ·refine JHo.q rfl (a0c ty_26.h rfl (Mem.box (i:=1) rfl rfl)) ?_
     refine y1 3 ?_
     refine yBB 1 sp_ rfl rfl (λw hb _ hw=>zq0 c1c X21AT X21SD 6 hb (ok_ hw)) ?_
     rintro _ _ G89 ⟨X89KX,X89AT,X89SD,rfl,rfl,hX89_0,hX89_1,hX89_2,hX89_3⟩
     refine znh ?_
     refine JH.p 4 rfl (p_sub rfl rfl (IntWalk.i64_in _ (by omega))) ?_
     refine JH.fact (a0s (i:=5) rfl (by omega)) (λhf91=>?_)
     obtain⟨b91,rfl⟩:=hf91
     refine jI 5 el_26 rfl rfl rfl rfl ?_
     refine y1 6 ?_
     refine JHo.s rfl (a0i (i:=5) (xs':=ints_ (gk.moves.set 0 (X89KX - 1))) ty_2.h rfl rfl rfl rfl rfl rfl (a0q (i:=0) (by omega)) (a0m (i:=0) (by omega))) (.inr rfl) ?_
     rintro _ _ _ ⟨rfl,rfl⟩ _
     refine znh ?_
     refine yd ?_
     refine zh [1,0,0,0,0,0,0,0,0,0] ?_
     exact zm ⟨_,_,_,_,_,rfl,rfl,zt,zt,zt,zt⟩ (Up.refl _ _) ⟨rfl,rfl,trivial⟩
    refine yBB 1 sp_ rfl rfl (λw hb _ hw=>zq0 c1c X21AT X21SD 6 hb (ok_ hw)) ?_
    rintro _ _ G92 ⟨X92KX,X92AT,X92SD,rfl,rfl,hX92_0,hX92_1,hX92_2,hX92_3⟩
    refine znh ?_
    refine JH.p 4 rfl (p_sub rfl rfl (IntWalk.i64_in _ (by omega))) ?_
    refine y1 1 ?_
    refine JHo.q rfl (a0c ty_26.h rfl (Mem.box (i:=2) rfl rfl)) ?_
    refine JH.fact (a0s (i:=5) rfl (by omega)) (λhf94=>?_)
    obtain⟨b94,rfl⟩:=hf94
    refine jI 5 el_26 rfl rfl rfl rfl ?_
    refine y1 6 ?_
    refine JHo.s rfl (a0i (i:=5) (xs':=ints_ (gk.moves.set 0 (X92KX - 1))) ty_2.h rfl rfl rfl rfl rfl rfl (a0q (i:=0) (by omega)) (a0m (i:=0) (by omega))) (.inr rfl) ?_
    rintro _ _ _ ⟨rfl,rfl⟩ _
    refine znh ?_
    refine yd ?_
    refine zh [1,0,0,0,0,0,0,0,0,0] ?_
    exact zm ⟨_,_,_,_,_,rfl,rfl,zt,zt,zt,zt⟩ (Up.refl _ _) ⟨rfl,rfl,trivial⟩
   rintro _ _ u88 ⟨G82,X82AT,X82SD,b84,X82KX,rfl,rfl,f88_0,f88_1,f88_2,f88_3⟩ x88
   refine zn ?_
   refine zf [1,1,1,1,1,1,1,1] λGG95=>?_
   refine zn ?_
   refine Js.blockEnd<|zS<|Q9 1 rfl rfl ?_
   refine zw 7 rfl rfl rfl ?_
   refine JL.nil ?_
   refine zf [0,1,1,1,1,1,1] λGG96=>?_
   refine zn ?_
   refine zrb [0,0,0,0,0,0] hb (x7.trans x88) ?_
   have hNr12:(gk.moves.set 0 (X82KX - 1)).length=gk.moves.length:=by first|rfl|assumption|omega|(simp only[List.length_set,M.a0h];done)|(simp only[List.length_set,M.a0h];first|rfl|assumption|omega)
   refine⟨((M.Gam.mk gk.rules gk.start (gk.moves.set 0 (X82KX - 1)) gk.now gk.resigned)),(X82AT),(X82SD),A7_3_9,c7_3_9,g7_3_9,A7_3_10,c7_3_10,g7_3_10,(some ⟨b84,0,none⟩),c7_3_12,g7_3_12,A7_3_13,c7_3_13,g7_3_13,A7_3_14,c7_3_14,g7_3_14,(show(.agg #[.int .i64 gk.rules.pits,.int .i64 gk.rules.seeds,.bool gk.rules.stores,.bool gk.rules.skip,.bool gk.rules.relay,.bool gk.rules.feed,.bool gk.rules.again,.int .i64 gk.rules.capture,.int .i64 gk.rules.slam,.slice A7_3_9 gk.start.pits.length c7_3_9,.slice A7_3_10 gk.start.stores.length c7_3_10,.int .i64 gk.start.player,.slice (some ⟨b84,0,none⟩) gk.moves.length c7_3_12,.slice A7_3_13 gk.now.pits.length c7_3_13,.slice A7_3_14 gk.now.stores.length c7_3_14,.int .i64 gk.now.player,.int .i64 gk.resigned]:Value)=.agg #[.int .i64 gk.rules.pits,.int .i64 gk.rules.seeds,.bool gk.rules.stores,.bool gk.rules.skip,.bool gk.rules.relay,.bool gk.rules.feed,.bool gk.rules.again,.int .i64 gk.rules.capture,.int .i64 gk.rules.slam,.slice A7_3_9 gk.start.pits.length c7_3_9,.slice A7_3_10 gk.start.stores.length c7_3_10,.int .i64 gk.start.player,.slice (some ⟨b84,0,none⟩) (gk.moves.set 0 (X82KX - 1)).length c7_3_12,.slice A7_3_13 gk.now.pits.length c7_3_13,.slice A7_3_14 gk.now.stores.length c7_3_14,.int .i64 gk.now.player,.int .i64 gk.resigned] by rw[hNr12]), ?_, ?_, ?_, ?_, ?_, ?_, ?_, ?_, ?_, ?_, ?_,by first|exact xb5_ hs hst|trivial|omega,by first|exact xb5_ hs hst|trivial|omega,by first|exact xb5_ hs hst|trivial|omega⟩
   · exact r5_ hNr12
   all_goals (try dsimp only)
   all_goals (first|(rw[hNr12];omega)|omega|(simp only[*];omega)|(simp;done))
  refine Js.skip<|Js.blockEnd<|zS<|Q9 1 rfl rfl ?_
  refine zw 7 rfl rfl rfl ?_
  refine JL.nil ?_
  refine zf [0,1,1,1,1,1,1] λGG97=>?_
  refine zn ?_
  refine zrb [0,0,0,0,0,0] hb x7 ?_
  refine⟨(gk),(X21AT),(X21SD),A7_3_9,c7_3_9,g7_3_9,A7_3_10,c7_3_10,g7_3_10,A7_3_12,c7_3_12,g7_3_12,A7_3_13,c7_3_13,g7_3_13,A7_3_14,c7_3_14,g7_3_14,rfl, ?_, ?_, ?_, ?_, ?_, ?_, ?_, ?_, ?_, ?_, ?_,by first|exact xb5_ hs hst|trivial|omega,by first|exact xb5_ hs hst|trivial|omega,by first|exact xb5_ hs hst|trivial|omega⟩
  · rfl
  all_goals (try dsimp only)
  all_goals (first|(omega)|omega|(simp only[*];omega)|(simp;done))
 refine Js.skip<|Js.blockEnd<|zS<|Q9 1 rfl rfl ?_
 refine zw 7 rfl rfl rfl ?_
 refine JL.nil ?_
 refine zf [0,1,1,1,1,1,1] λGG98=>?_
 refine zn ?_
 refine zrb [0,0,0,0,0,0] hb x7 ?_
 refine⟨(gk),(X21AT),(X21SD),A7_3_9,c7_3_9,g7_3_9,A7_3_10,c7_3_10,g7_3_10,A7_3_12,c7_3_12,g7_3_12,A7_3_13,c7_3_13,g7_3_13,A7_3_14,c7_3_14,g7_3_14,rfl, ?_, ?_, ?_, ?_, ?_, ?_, ?_, ?_, ?_, ?_, ?_,by first|exact xb5_ hs hst|trivial|omega,by first|exact xb5_ hs hst|trivial|omega,by first|exact xb5_ hs hst|trivial|omega⟩
 · rfl
 all_goals (try dsimp only)
 all_goals (first|(omega)|omega|(simp only[*];omega)|(simp;done))
theorem zq144(r:M.Rul){v_r:Value}(p:M.Pos){v_p:Value}{w:World}(h_r:(Ty.agg (cRules r)).ok w v_r)(h_p:(Ty.agg (cPosition p)).ok w v_p)(r0:p.pits.length<=4194304:=by exact om_)(r1:p.stores.length<=4194304:=by exact om_):Ret Tryz.prog 87 [v_r,v_p] w (Ty.box 77 (csowing (M.Sow.mk r p.player (M.Sw.mk p.pits p.stores 0 0) []))):=by
 revert v_r;apply opn
 revert v_p;apply opn
 intro A1 c1 h1 bl1 bh1 A2 c2 h2 bl2 bh2
 refine enter @Tryz.func87 @Tryz.ntmps87 rfl rfl ?_
 refine zent ?_
 refine zS<|zb rfl λb3=>zb rfl λb4=>Qa rfl<|zN<|Q9 0 rfl rfl ?_
 refine zc rfl (λw hw=>zq6 p (ok_ hw)) ?_
 intro A6 c6 bl6 bh6 A7 c7 bl7 bh7
 refine za zeh λb8=>zw 0 rfl rfl rfl ?_
 refine zN<|Q9 4 rfl rfl ?_
 refine Qf fh rfl<|Q0 3 rfl rfl rfl<|Qf fh rfl<|Q0 0 rfl rfl rfl<|Qf fh rfl<|Q0 0 rfl rfl rfl<|Qb ?_
 refine zbs λb9=>?_
 refine Qb ?_
 refine zb rfl λb11=>Qa rfl<|JL.nil ?_
 exact zro (Up.refl _ _)
theorem zq145(c1d:M.Rul)(c1b:Int)(s_sown:M.Sw)(s_path:List Int){As_10:Option Addr}{cs_10:Nat}{gs_10:List Nat}{As_11:Option Addr}{cs_11:Nat}{gs_11:List Nat}{As_14:Option Addr}{cs_14:Nat}{gs_14:List Nat}(from_:Int){bs:Nat}{w:World}(hb:Bw w [boxO bs [.int .i64 c1d.pits,.int .i64 c1d.seeds,.bool c1d.stores,.bool c1d.skip,.bool c1d.relay,.bool c1d.feed,.bool c1d.again,.int .i64 c1d.capture,.int .i64 c1d.slam,.int .i64 c1b,.slice As_10 s_sown.pits.length cs_10,.slice As_11 s_sown.stores.length cs_11,.int .i64 s_sown.last,.int .i64 s_sown.laps,.slice As_14 s_path.length cs_14] 77,rowO 2 1 (.slice As_10 s_sown.pits.length cs_10) s_sown.pits.length (ints_ s_sown.pits) gs_10,rowO 2 1 (.slice As_11 s_sown.stores.length cs_11) s_sown.stores.length (ints_ s_sown.stores) gs_11,rowO 2 1 (.slice As_14 s_path.length cs_14) s_path.length (ints_ s_path) gs_14])(bd0:s_sown.pits.length<=cs_10:=by exact om_)(bd1:cs_10<=9223372036854775807:=by exact om_)(bd2:s_sown.stores.length<=cs_11:=by exact om_)(bd3:cs_11<=9223372036854775807:=by exact om_)(bd4:s_path.length<=cs_14:=by exact om_)(bd5:cs_14<=9223372036854775807:=by exact om_)(r0:2<=c1d.pits:=by exact om_)(r1:c1d.pits<=8:=by exact om_)(r2:c1b=0\/c1b=1:=by exact om_)(r3:0<=from_:=by exact om_)(r4:from_ < 2 * c1d.pits:=by exact om_)(r5:M.Good c1d s_sown.pits s_sown.stores 0:=by exact om_)(r6:0 < (M.getI s_sown.pits from_):=by exact om_)(r7:0<=s_sown.laps:=by exact om_)(r8:s_sown.laps<=99:=by exact om_)(r9:s_path.length<=10000:=by exact om_):RetB Tryz.prog 89 [.pointer (some ⟨bs,0,none⟩),.int .i64 from_] w [boxO bs [.int .i64 c1d.pits,.int .i64 c1d.seeds,.bool c1d.stores,.bool c1d.skip,.bool c1d.relay,.bool c1d.feed,.bool c1d.again,.int .i64 c1d.capture,.int .i64 c1d.slam,.int .i64 c1b,.slice As_10 s_sown.pits.length cs_10,.slice As_11 s_sown.stores.length cs_11,.int .i64 s_sown.last,.int .i64 s_sown.laps,.slice As_14 s_path.length cs_14] 77,rowO 2 1 (.slice As_10 s_sown.pits.length cs_10) s_sown.pits.length (ints_ s_sown.pits) gs_10,rowO 2 1 (.slice As_11 s_sown.stores.length cs_11) s_sown.stores.length (ints_ s_sown.stores) gs_11,rowO 2 1 (.slice As_14 s_path.length cs_14) s_path.length (ints_ s_path) gs_14] (λv bs'=>∃ (Axs_10:Option Addr) (cxs_10:Nat) (gxs_10:List Nat) (Axs_11:Option Addr) (cxs_11:Nat) (gxs_11:List Nat) (Axs_14:Option Addr) (cxs_14:Nat) (gxs_14:List Nat),v=.bool (M.more c1d (M.lap c1d c1b from_ s_sown s_path).1)/\bs'=[boxO bs [.int .i64 c1d.pits,.int .i64 c1d.seeds,.bool c1d.stores,.bool c1d.skip,.bool c1d.relay,.bool c1d.feed,.bool c1d.again,.int .i64 c1d.capture,.int .i64 c1d.slam,.int .i64 c1b,.slice Axs_10 ((((M.lap c1d c1b from_ s_sown s_path).1).pits).length) cxs_10,.slice Axs_11 ((((M.lap c1d c1b from_ s_sown s_path).1).stores).length) cxs_11,.int .i64 (((M.lap c1d c1b from_ s_sown s_path).1).last),.int .i64 (((M.lap c1d c1b from_ s_sown s_path).1).laps),.slice Axs_14 (((M.lap c1d c1b from_ s_sown s_path).2).length) cxs_14] 77,rowO 2 1 (.slice Axs_10 ((((M.lap c1d c1b from_ s_sown s_path).1).pits).length) cxs_10) ((((M.lap c1d c1b from_ s_sown s_path).1).pits).length) (ints_ (((M.lap c1d c1b from_ s_sown s_path).1).pits)) gxs_10,rowO 2 1 (.slice Axs_11 ((((M.lap c1d c1b from_ s_sown s_path).1).stores).length) cxs_11) ((((M.lap c1d c1b from_ s_sown s_path).1).stores).length) (ints_ (((M.lap c1d c1b from_ s_sown s_path).1).stores)) gxs_11,rowO 2 1 (.slice Axs_14 (((M.lap c1d c1b from_ s_sown s_path).2).length) cxs_14) (((M.lap c1d c1b from_ s_sown s_path).2).length) (ints_ ((M.lap c1d c1b from_ s_sown s_path).2)) gxs_14]/\(((M.lap c1d c1b from_ s_sown s_path).1).pits).length<=cxs_10/\cxs_10<=9223372036854775807/\(((M.lap c1d c1b from_ s_sown s_path).1).stores).length<=cxs_11/\cxs_11<=9223372036854775807/\((M.lap c1d c1b from_ s_sown s_path).2).length<=cxs_14/\cxs_14<=9223372036854775807):=by
 have l1:=r5.lp
 have l2:=r5.ls
 have hk0:=r5.pit from_
 refine enterB hb @Tryz.func89 @Tryz.ntmps89 rfl rfl ?_
 refine zent ?_
 refine Js.trashE ?_
 refine zn ?_
 refine Js.fact (a0s (i:=1) rfl (by omega)) (λhf1=>?_)
 obtain⟨b1,rfl⟩:=hf1
 refine Js.fact (a0s (i:=2) rfl (by omega)) (λhf2=>?_)
 obtain⟨b2,rfl⟩:=hf2
 refine zS<|Qa rfl<|zN<|Qm rfl<|Qc rfl<|Qf fh rfl<|Qf fh rfl<|Q0 0 rfl rfl rfl<|Qm rfl<|Qq (a0a el_26 rfl rfl (by omega) (by omega) rfl)<|Qw (a0c ty_2.h rfl (Mem.row (i:=1) rfl (a1b (i:=from_) (by omega))))<|Qm rfl<|Qa rfl<|Qa rfl ?_
 refine Qa rfl<|zN<|Qm rfl<|Qc rfl<|Qf fh rfl<|Qf fh rfl<|Q0 0 rfl rfl rfl<|Qm rfl<|Qq (a0a el_26 rfl rfl (by omega) (by omega) rfl) ?_
 refine JL.s (a0i (i:=1) (xs':=ints_ (M.setI s_sown.pits from_ 0)) ty_2.h rfl rfl rfl rfl rfl rfl (a0q (i:=from_.toNat) (by omega)) (a0m (i:=from_.toNat) (by omega))) ?_
 rintro _ _ _ ⟨rfl,rfl⟩ _
 refine znl ?_
 refine zJ<|Js.block ?_
 refine zl [0,1] (λF U l os u m=>∃ (k place before:Int) (ps ss path:List Int) (A5_0_14:Option Addr) (c5_0_14:Nat) (g5_0_14:List Nat) (G5_4:List Nat),l=F [(5,.int .i64 k),(6,.int .i64 place),(7,.int .i64 before)]/\os=U [some (boxO bs [.int .i64 c1d.pits,.int .i64 c1d.seeds,.bool c1d.stores,.bool c1d.skip,.bool c1d.relay,.bool c1d.feed,.bool c1d.again,.int .i64 c1d.capture,.int .i64 c1d.slam,.int .i64 c1b,.slice (some ⟨b1,0,none⟩) s_sown.pits.length cs_10,.slice (some ⟨b2,0,none⟩) s_sown.stores.length cs_11,.int .i64 s_sown.last,.int .i64 s_sown.laps,.slice A5_0_14 path.length c5_0_14] 77),some (rowO 2 1 (.slice (some ⟨b1,0,none⟩) s_sown.pits.length cs_10) s_sown.pits.length (ints_ ps) gs_10),some (rowO 2 1 (.slice (some ⟨b2,0,none⟩) s_sown.stores.length cs_11) s_sown.stores.length (ints_ ss) gs_11),some (rowO 2 1 (.slice A5_0_14 path.length c5_0_14) path.length (ints_ path) g5_0_14),some (anyO G5_4)]/\(M.sow c1d c1b from_ k.toNat place ps ss path=M.sow c1d c1b from_ (M.getI s_sown.pits from_).toNat from_ (M.setI s_sown.pits from_ 0) s_sown.stores s_path)/\(M.Good c1d ps ss k)/\(-1<=place)/\(place < 2 * c1d.pits)/\((path.length:Int) + k=s_path.length + (M.getI s_sown.pits from_))/\(k=(M.getI s_sown.pits from_)\/(0<=place->M.getI ps place=before + 1))/\(path.length<=c5_0_14)/\(c5_0_14<=9223372036854775807)/\m=k.toNat) ⟨M.getI s_sown.pits from_,from_,0,M.setI s_sown.pits from_ 0,s_sown.stores,s_path,_,_,_,_,rfl,rfl,by rfl,by exact r5.takeUp r3 r4,zt,zt,zt,by exact .inl rfl,zu,zu,rfl⟩ ?_
 rintro _ _ u5 _ ⟨k,place,before,ps,ss,path,A5_0_14,c5_0_14,g5_0_14,G5_4,rfl,rfl,hS,hG,p0,p1,hl,hB,f5_6,f5_7,rfl⟩ x5
 refine zn ?_
 have l3:=hG.lp
 have l4:=hG.ls
 have hs0:=hG.store c1b
 have k0:=hG.n0
 refine Js.seq<|zS<|Qm rfl<|Qg rfl rfl<|JL.nil ?_
 refine zi (λh6 h6'=>?_) λh6 h6'=>?_
 ·refine Js.skip<|Js.seq<|Js.block<|Js.seq ?_
  refine zdr [] ?_
  refine jM 0 rfl rfl ?_
  refine jN 1 rfl rfl ?_
  refine jF 2 b7r rfl rfl ?_
  refine JH.q 3 rfl (L9 0 rfl rfl) ?_
  refine jM 4 rfl rfl ?_
  refine jN 5 rfl rfl ?_
  refine jF 6 a8v rfl rfl ?_
  refine jB 7 0 ty_2 rfl rfl rfl rfl ?_
  refine jM 8 rfl rfl ?_
  refine y1 9 ?_
  refine yv rfl rfl (λw hw=>zq70 c1d c1b place (ok_ hw)) ?_
  refine jA 10 rfl rfl ?_
  refine yd ?_
  refine Js.seq<|zS<|Qm rfl<|Qc rfl<|Qf fh rfl<|Qf fh rfl<|Q0 0 rfl rfl rfl<|Qm rfl<|zg (Gd.t1 rfl rfl rfl) (λhc=>a0e rfl)<|zg (Gd.t1 rfl rfl rfl) (λhc=>a0e rfl)<|zg (Gd.t1 rfl rfl rfl) (λhc=>p_eql (gh hc rfl) (gh hc rfl))<|Qq (a0d rfl rfl rfl)<|JL.nil ?_
  refine zi (λh7 h7'=>?_) λh7 h7'=>?_
  ·have hc:c1d.skip=true/\M.after c1d c1b place=from_:=by simpa using h7
   have hq:M.nxt c1d c1b from_ place=M.after c1d c1b (M.after c1d c1b place):=by rw[M.nxt_yes hc,hc.2]
   have ha:=M.a8w c1d r1 r0 r2 p0
   refine zdr [] ?_
   refine jM 0 rfl rfl ?_
   refine jN 1 rfl rfl ?_
   refine jF 2 b7r rfl rfl ?_
   refine JH.q 3 rfl (L9 0 rfl rfl) ?_
   refine jM 4 rfl rfl ?_
   refine jN 5 rfl rfl ?_
   refine jF 6 a8v rfl rfl ?_
   refine jB 7 0 ty_2 rfl rfl rfl rfl ?_
   refine jM 8 rfl rfl ?_
   refine y1 9 ?_
   refine yv rfl rfl (λw hw=>zq70 c1d c1b (M.after c1d c1b place) (ok_ hw)) ?_
   refine jA 10 rfl rfl ?_
   refine yd ?_
   have hqb:=M.nxt_bd c1d (frm:=from_) r1 r0 r2 p0 r3
   rw[hq] at hqb
   refine Js.seq<|zS<|Qm rfl<|Ql rfl rfl<|JL.nil ?_
   refine zi (λh8 h8'=>?_) λh8 h8'=>?_
   ·have hS2:M.sow c1d c1b from_ (k - 1).toNat (M.after c1d c1b (M.after c1d c1b place)) ps (M.setI ss c1b (M.getI ss c1b + 1)) (path++[(M.after c1d c1b (M.after c1d c1b place))])=M.sow c1d c1b from_ (M.getI s_sown.pits from_).toNat from_ (M.setI s_sown.pits from_ 0) s_sown.stores s_path:=by rw[<- hS,show k.toNat=(k - 1).toNat + 1 by omega,M.a2r hq,if_pos (by omega)]
    have hG2:=hG.putStore (k:=c1b) (by omega) (by omega) (by omega)
    have hB2:0<=(M.after c1d c1b (M.after c1d c1b place))->M.getI ps (M.after c1d c1b (M.after c1d c1b place))=before + 1:=λh=>by omega
    refine zdr [13] ?_
    refine jM 0 rfl rfl ?_
    refine jN 1 rfl rfl ?_
    refine jF 2 a9n rfl rfl ?_
    refine jF 3 a2m rfl rfl ?_
    refine jB 4 0 ty_26 rfl rfl rfl rfl ?_
    refine jM 5 rfl rfl ?_
    refine jN 6 rfl rfl ?_
    refine jF 7 a8v rfl rfl ?_
    refine jB 8 0 ty_2 rfl rfl rfl rfl ?_
    refine jI 9 el_26 rfl rfl rfl rfl ?_
    refine JH.q 10 rfl (a0c ty_2.h rfl (Mem.row (i:=2) rfl (a1b (i:=c1b) (by omega)))) ?_
    refine JH.p 11 rfl (p_add rfl rfl (IntWalk.i64_in _ (by omega))) ?_
    refine jI 12 el_26 rfl rfl rfl rfl ?_
    refine y1 13 ?_
    refine JHo.s rfl (a0i (i:=2) (xs':=ints_ (M.setI ss c1b ((M.getI ss c1b) + 1))) ty_2.h rfl rfl rfl rfl rfl rfl (a0q (i:=c1b.toNat) (by omega)) (a0m (i:=c1b.toNat) (by omega))) (.inr rfl) ?_
    rintro _ _ _ ⟨rfl,rfl⟩ _
    refine znh ?_
    refine yd ?_
    refine Js.region<|Qm rfl<|Qm rfl<|Qc rfl<|Qf fh rfl<|Q0 0 rfl rfl rfl<|Qm rfl<|zbs λb11=>?_
    refine JL.e (a0g (i:=4) (n':=(path++[(M.after c1d c1b (M.after c1d c1b place))]).length) (vs':=ints_ (path++[(M.after c1d c1b (M.after c1d c1b place))])) el_26 rfl rfl rfl rfl (a0k (i:=0) a1h rfl rfl) (by omega) (by omega) ln2_ (by simp[ints_])) ?_
    rintro v13 _ _ ⟨⟨g14,rfl⟩,rfl⟩ _
    refine JL.fact (row_form' (i:=4) rfl) (λhf15=>?_)
    obtain⟨A15,c15,rfl,bl15,bh15⟩:=hf15
    refine znl ?_
    refine Qc rfl<|Qf fh rfl<|zw 1 rfl rfl rfl ?_
    refine JL.nil<|Js.blockEnd<|Js.region<|Qm rfl<|Qs rfl rfl<|Qa rfl<|JL.nil ?_
    refine zf [1,1,1,1] λGG16=>?_
    refine zn ?_
    exact zag ⟨k - 1,M.after c1d c1b (M.after c1d c1b place),before,ps,M.setI ss c1b ((M.getI ss c1b) + 1),path++[(M.after c1d c1b (M.after c1d c1b place))],_,_,_,_,rfl,rfl,by exact hS2,by exact hG2,zt,zt,by simp only[List.length_append,List.length_cons,List.length_nil];omega,by exact .inr hB2,zu,zu,rfl⟩ x5
   have hS2:M.sow c1d c1b from_ (k - 1).toNat (M.after c1d c1b (M.after c1d c1b place)) (M.setI ps (M.after c1d c1b (M.after c1d c1b place)) (M.getI ps (M.after c1d c1b (M.after c1d c1b place)) + 1)) ss (path++[(M.after c1d c1b (M.after c1d c1b place))])=M.sow c1d c1b from_ (M.getI s_sown.pits from_).toNat from_ (M.setI s_sown.pits from_ 0) s_sown.stores s_path:=by rw[<- hS,show k.toNat=(k - 1).toNat + 1 by omega,M.a2r hq,if_neg (by omega)]
   have hG2:=hG.putPit (k:=(M.after c1d c1b (M.after c1d c1b place))) (by omega) (by omega) hqb.2
   have hpq:=hG.pit (M.after c1d c1b (M.after c1d c1b place))
   have hB2:0<=(M.after c1d c1b (M.after c1d c1b place))->M.getI (M.setI ps (M.after c1d c1b (M.after c1d c1b place)) (M.getI ps (M.after c1d c1b (M.after c1d c1b place)) + 1)) (M.after c1d c1b (M.after c1d c1b place))=M.getI ps (M.after c1d c1b (M.after c1d c1b place)) + 1:=λh=>M.a3x h (by omega) _
   refine zS<|Qm rfl<|Qc rfl<|Qf fh rfl<|Qf fh rfl<|Q0 0 rfl rfl rfl<|Qm rfl<|Qq (a0a el_26 rfl rfl (by omega) (by omega) rfl)<|Qw (a0c ty_2.h rfl (Mem.row (i:=1) rfl (a1b (i:=M.after c1d c1b (M.after c1d c1b place)) (by omega))))<|Qa rfl<|zG<|Qm rfl<|Qc rfl<|Qf fh rfl ?_
   refine Qf fh rfl<|Q0 0 rfl rfl rfl<|Qm rfl<|Qq (a0a el_26 rfl rfl (by omega) (by omega) rfl)<|Qw (a0c ty_2.h rfl (Mem.row (i:=1) rfl (a1b (i:=M.after c1d c1b (M.after c1d c1b place)) (by omega))))<|Qp rfl rfl<|Qq (a0a el_26 rfl rfl (by omega) (by omega) rfl) ?_
   refine JL.s (a0i (i:=1) (xs':=ints_ (M.setI ps (M.after c1d c1b (M.after c1d c1b place)) ((M.getI ps (M.after c1d c1b (M.after c1d c1b place))) + 1))) ty_2.h rfl rfl rfl rfl rfl rfl (a0q (i:=(M.after c1d c1b (M.after c1d c1b place)).toNat) (by omega)) (a0m (i:=(M.after c1d c1b (M.after c1d c1b place)).toNat) (by omega))) ?_
   rintro _ _ _ ⟨rfl,rfl⟩ _
   refine znl ?_
   refine zG<|Qm rfl<|Qm rfl<|Qc rfl<|Qf fh rfl<|Q0 0 rfl rfl rfl<|Qm rfl<|zbs λb20=>?_
   refine JL.e (a0g (i:=4) (n':=(path++[(M.after c1d c1b (M.after c1d c1b place))]).length) (vs':=ints_ (path++[(M.after c1d c1b (M.after c1d c1b place))])) el_26 rfl rfl rfl rfl (a0k (i:=0) a1h rfl rfl) (by omega) (by omega) ln2_ (by simp[ints_])) ?_
   rintro v22 _ _ ⟨⟨g23,rfl⟩,rfl⟩ _
   refine JL.fact (row_form' (i:=4) rfl) (λhf24=>?_)
   obtain⟨A24,c24,rfl,bl24,bh24⟩:=hf24
   refine znl ?_
   refine Qc rfl<|Qf fh rfl<|zw 1 rfl rfl rfl ?_
   refine JL.nil<|Js.blockEnd<|Js.region<|Qm rfl<|Qs rfl rfl<|Qa rfl<|JL.nil ?_
   refine zf [1,1,1,1] λGG25=>?_
   refine zn ?_
   exact zag ⟨k - 1,M.after c1d c1b (M.after c1d c1b place),M.getI ps (M.after c1d c1b (M.after c1d c1b place)),M.setI ps (M.after c1d c1b (M.after c1d c1b place)) ((M.getI ps (M.after c1d c1b (M.after c1d c1b place))) + 1),ss,path++[(M.after c1d c1b (M.after c1d c1b place))],_,_,_,_,rfl,rfl,by exact hS2,by exact hG2,zt,zt,by simp only[List.length_append,List.length_cons,List.length_nil];omega,by exact .inr hB2,zu,zu,rfl⟩ x5
  have hc:¬(c1d.skip=true/\M.after c1d c1b place=from_):=by simpa using h7
  have hq:=M.nxt_no hc
  have hqb:=M.nxt_bd c1d (frm:=from_) r1 r0 r2 p0 r3
  rw[hq] at hqb
  refine Js.skip<|Js.seq<|zS<|Qm rfl<|Ql rfl rfl<|JL.nil ?_
  refine zi (λh26 h26'=>?_) λh26 h26'=>?_
  ·have hS2:M.sow c1d c1b from_ (k - 1).toNat (M.after c1d c1b place) ps (M.setI ss c1b (M.getI ss c1b + 1)) (path++[(M.after c1d c1b place)])=M.sow c1d c1b from_ (M.getI s_sown.pits from_).toNat from_ (M.setI s_sown.pits from_ 0) s_sown.stores s_path:=by rw[<- hS,show k.toNat=(k - 1).toNat + 1 by omega,M.a2r hq,if_pos (by omega)]
   have hG2:=hG.putStore (k:=c1b) (by omega) (by omega) (by omega)
   have hB2:0<=(M.after c1d c1b place)->M.getI ps (M.after c1d c1b place)=before + 1:=λh=>by omega
   refine zdr [13] ?_
   refine jM 0 rfl rfl ?_
   refine jN 1 rfl rfl ?_
   refine jF 2 a9n rfl rfl ?_
   refine jF 3 a2m rfl rfl ?_
   refine jB 4 0 ty_26 rfl rfl rfl rfl ?_
   refine jM 5 rfl rfl ?_
   refine jN 6 rfl rfl ?_
   refine jF 7 a8v rfl rfl ?_
   refine jB 8 0 ty_2 rfl rfl rfl rfl ?_
   refine jI 9 el_26 rfl rfl rfl rfl ?_
   refine JH.q 10 rfl (a0c ty_2.h rfl (Mem.row (i:=2) rfl (a1b (i:=c1b) (by omega)))) ?_
   refine JH.p 11 rfl (p_add rfl rfl (IntWalk.i64_in _ (by omega))) ?_
   refine jI 12 el_26 rfl rfl rfl rfl ?_
   refine y1 13 ?_
   refine JHo.s rfl (a0i (i:=2) (xs':=ints_ (M.setI ss c1b ((M.getI ss c1b) + 1))) ty_2.h rfl rfl rfl rfl rfl rfl (a0q (i:=c1b.toNat) (by omega)) (a0m (i:=c1b.toNat) (by omega))) (.inr rfl) ?_
   rintro _ _ _ ⟨rfl,rfl⟩ _
   refine znh ?_
   refine yd ?_
   refine Js.region<|Qm rfl<|Qm rfl<|Qc rfl<|Qf fh rfl<|Q0 0 rfl rfl rfl<|Qm rfl<|zbs λb29=>?_
   refine JL.e (a0g (i:=4) (n':=(path++[(M.after c1d c1b place)]).length) (vs':=ints_ (path++[(M.after c1d c1b place)])) el_26 rfl rfl rfl rfl (a0k (i:=0) a1h rfl rfl) (by omega) (by omega) ln2_ (by simp[ints_])) ?_
   rintro v31 _ _ ⟨⟨g32,rfl⟩,rfl⟩ _
   refine JL.fact (row_form' (i:=4) rfl) (λhf33=>?_)
   obtain⟨A33,c33,rfl,bl33,bh33⟩:=hf33
   refine znl ?_
   refine Qc rfl<|Qf fh rfl<|zw 1 rfl rfl rfl ?_
   refine JL.nil<|Js.blockEnd<|Js.region<|Qm rfl<|Qs rfl rfl<|Qa rfl<|JL.nil ?_
   refine zf [1,1,1,1] λGG34=>?_
   refine zn ?_
   exact zag ⟨k - 1,M.after c1d c1b place,before,ps,M.setI ss c1b ((M.getI ss c1b) + 1),path++[(M.after c1d c1b place)],_,_,_,_,rfl,rfl,by exact hS2,by exact hG2,zt,zt,by simp only[List.length_append,List.length_cons,List.length_nil];omega,by exact .inr hB2,zu,zu,rfl⟩ x5
  have hS2:M.sow c1d c1b from_ (k - 1).toNat (M.after c1d c1b place) (M.setI ps (M.after c1d c1b place) (M.getI ps (M.after c1d c1b place) + 1)) ss (path++[(M.after c1d c1b place)])=M.sow c1d c1b from_ (M.getI s_sown.pits from_).toNat from_ (M.setI s_sown.pits from_ 0) s_sown.stores s_path:=by rw[<- hS,show k.toNat=(k - 1).toNat + 1 by omega,M.a2r hq,if_neg (by omega)]
  have hG2:=hG.putPit (k:=(M.after c1d c1b place)) (by omega) (by omega) hqb.2
  have hpq:=hG.pit (M.after c1d c1b place)
  have hB2:0<=(M.after c1d c1b place)->M.getI (M.setI ps (M.after c1d c1b place) (M.getI ps (M.after c1d c1b place) + 1)) (M.after c1d c1b place)=M.getI ps (M.after c1d c1b place) + 1:=λh=>M.a3x h (by omega) _
  refine zS<|Qm rfl<|Qc rfl<|Qf fh rfl<|Qf fh rfl<|Q0 0 rfl rfl rfl<|Qm rfl<|Qq (a0a el_26 rfl rfl (by omega) (by omega) rfl)<|Qw (a0c ty_2.h rfl (Mem.row (i:=1) rfl (a1b (i:=M.after c1d c1b place) (by omega))))<|Qa rfl<|zG<|Qm rfl<|Qc rfl<|Qf fh rfl ?_
  refine Qf fh rfl<|Q0 0 rfl rfl rfl<|Qm rfl<|Qq (a0a el_26 rfl rfl (by omega) (by omega) rfl)<|Qw (a0c ty_2.h rfl (Mem.row (i:=1) rfl (a1b (i:=M.after c1d c1b place) (by omega))))<|Qp rfl rfl<|Qq (a0a el_26 rfl rfl (by omega) (by omega) rfl) ?_
  refine JL.s (a0i (i:=1) (xs':=ints_ (M.setI ps (M.after c1d c1b place) ((M.getI ps (M.after c1d c1b place)) + 1))) ty_2.h rfl rfl rfl rfl rfl rfl (a0q (i:=(M.after c1d c1b place).toNat) (by omega)) (a0m (i:=(M.after c1d c1b place).toNat) (by omega))) ?_
  rintro _ _ _ ⟨rfl,rfl⟩ _
  refine znl ?_
  refine zG<|Qm rfl<|Qm rfl<|Qc rfl<|Qf fh rfl<|Q0 0 rfl rfl rfl<|Qm rfl<|zbs λb38=>?_
  refine JL.e (a0g (i:=4) (n':=(path++[(M.after c1d c1b place)]).length) (vs':=ints_ (path++[(M.after c1d c1b place)])) el_26 rfl rfl rfl rfl (a0k (i:=0) a1h rfl rfl) (by omega) (by omega) ln2_ (by simp[ints_])) ?_
  rintro v40 _ _ ⟨⟨g41,rfl⟩,rfl⟩ _
  refine JL.fact (row_form' (i:=4) rfl) (λhf42=>?_)
  obtain⟨A42,c42,rfl,bl42,bh42⟩:=hf42
  refine znl ?_
  refine Qc rfl<|Qf fh rfl<|zw 1 rfl rfl rfl ?_
  refine JL.nil<|Js.blockEnd<|Js.region<|Qm rfl<|Qs rfl rfl<|Qa rfl<|JL.nil ?_
  refine zf [1,1,1,1] λGG43=>?_
  refine zn ?_
  exact zag ⟨k - 1,M.after c1d c1b place,M.getI ps (M.after c1d c1b place),M.setI ps (M.after c1d c1b place) ((M.getI ps (M.after c1d c1b place)) + 1),ss,path++[(M.after c1d c1b place)],_,_,_,_,rfl,rfl,by exact hS2,by exact hG2,zt,zt,by simp only[List.length_append,List.length_cons,List.length_nil];omega,by exact .inr hB2,zu,zu,rfl⟩ x5
 have hL:M.lap c1d c1b from_ s_sown s_path=(⟨ps,ss,place,s_sown.laps + 1⟩,path):=by unfold M.lap;rw[<- hS];simp[show k.toNat=0 by omega,M.sow]
 have hB3:=hB.resolve_left (by omega)
 refine zx ?_
 refine zS<|Qm rfl<|Qm rfl<|Qc rfl<|Qf fh rfl<|Qf fh rfl<|zw 0 rfl rfl rfl ?_
 refine zN<|Qm rfl<|Qc rfl<|Qf fh rfl<|Qf fh rfl<|Q0 0 rfl rfl rfl<|Qp rfl rfl<|Qc rfl<|Qf fh rfl<|Qf fh rfl<|zw 0 rfl rfl rfl ?_
 refine zN<|Qm rfl<|Qc rfl<|Qf fh rfl<|Qf fh rfl<|Q0 0 rfl rfl rfl<|Qm rfl<|zg (Gd.t1 rfl rfl rfl) (λhc=>a0e rfl)<|zg (Gd.t1 rfl rfl rfl) (λhc=>p_geq (gh hc rfl) rfl)<|Qq (a0d rfl rfl rfl)<|Qm rfl<|zg (Gd.t1 rfl rfl rfl) (λhc=>a0e rfl)<|zg (Gd.t1 rfl rfl rfl) (λhc=>p_gtr (gh hc rfl) rfl)<|Qq (a0d rfl rfl rfl) ?_
 refine Qa rfl<|JL.nil ?_
 refine zrb [0,0,0,0] hb x5 ?_
 have e5:0<=place->(1 < M.getI ps place↔0 < before):=λh=>by rw[hB3 h];omega
 clear hS
 have hE:(.bool ((c1d.relay && (decide (0<=place))) && (decide (0 < before))):Value)=.bool (M.more c1d (M.lap c1d c1b from_ s_sown s_path).1):=by rw[hL];by_cases hp:0<=place <;> simp[M.more,hp,e5]
 have hN11:(((M.lap c1d c1b from_ s_sown s_path).1).pits).length=s_sown.pits.length:=by first|(rw[hL];done)|(rw[hL];show ps.length=_;omega)|(rw[hL];show ss.length=_;omega)
 have hE11:((M.lap c1d c1b from_ s_sown s_path).1).pits=ps:=by rw[hL]
 have hN12:(((M.lap c1d c1b from_ s_sown s_path).1).stores).length=s_sown.stores.length:=by first|(rw[hL];done)|(rw[hL];show ps.length=_;omega)|(rw[hL];show ss.length=_;omega)
 have hE12:((M.lap c1d c1b from_ s_sown s_path).1).stores=ss:=by rw[hL]
 have hE13:((M.lap c1d c1b from_ s_sown s_path).1).last=place:=by rw[hL]
 have hE14:((M.lap c1d c1b from_ s_sown s_path).1).laps=(s_sown.laps + 1):=by rw[hL]
 have hN15:((M.lap c1d c1b from_ s_sown s_path).2).length=path.length:=by first|(rw[hL];done)|(rw[hL];show ps.length=_;omega)|(rw[hL];show ss.length=_;omega)
 have hE15:(M.lap c1d c1b from_ s_sown s_path).2=path:=by rw[hL]
 refine⟨(some ⟨b1,0,none⟩),cs_10,gs_10,(some ⟨b2,0,none⟩),cs_11,gs_11,A5_0_14,c5_0_14,g5_0_14,hE, ?_, ?_, ?_, ?_, ?_, ?_, ?_⟩
 · rw[hN11,hE11,hN12,hE12,hE13,hE14,hN15,hE15]
 all_goals (first|(rw[hN11,hE11,hN12,hE12,hE13,hE14,hN15,hE15];omega)|omega|(simp only[*];omega)|(simp;done))
theorem zq146(c1d:M.Rul)(c1b:Int)(s_sown:M.Sw)(s_path:List Int){As_10:Option Addr}{cs_10:Nat}{gs_10:List Nat}{As_11:Option Addr}{cs_11:Nat}{gs_11:List Nat}{As_14:Option Addr}{cs_14:Nat}{gs_14:List Nat}(from_:Int){bs:Nat}{w:World}(hb:Bw w [boxO bs [.int .i64 c1d.pits,.int .i64 c1d.seeds,.bool c1d.stores,.bool c1d.skip,.bool c1d.relay,.bool c1d.feed,.bool c1d.again,.int .i64 c1d.capture,.int .i64 c1d.slam,.int .i64 c1b,.slice As_10 s_sown.pits.length cs_10,.slice As_11 s_sown.stores.length cs_11,.int .i64 s_sown.last,.int .i64 s_sown.laps,.slice As_14 s_path.length cs_14] 77,rowO 2 1 (.slice As_10 s_sown.pits.length cs_10) s_sown.pits.length (ints_ s_sown.pits) gs_10,rowO 2 1 (.slice As_11 s_sown.stores.length cs_11) s_sown.stores.length (ints_ s_sown.stores) gs_11,rowO 2 1 (.slice As_14 s_path.length cs_14) s_path.length (ints_ s_path) gs_14])(bd0:s_sown.pits.length<=cs_10:=by exact om_)(bd1:cs_10<=9223372036854775807:=by exact om_)(bd2:s_sown.stores.length<=cs_11:=by exact om_)(bd3:cs_11<=9223372036854775807:=by exact om_)(bd4:s_path.length<=cs_14:=by exact om_)(bd5:cs_14<=9223372036854775807:=by exact om_)(r0:2<=c1d.pits:=by exact om_)(r1:c1d.pits<=8:=by exact om_)(r2:c1b=0\/c1b=1:=by exact om_)(r3:0<=from_:=by exact om_)(r4:from_ < 2 * c1d.pits:=by exact om_)(r5:M.Good c1d s_sown.pits s_sown.stores 0:=by exact om_)(r6:0 < (M.getI s_sown.pits from_):=by exact om_)(r7:s_sown.laps=0:=by exact om_)(r8:s_path.length=0:=by exact om_):RetB Tryz.prog 103 [.pointer (some ⟨bs,0,none⟩),.int .i64 from_] w [boxO bs [.int .i64 c1d.pits,.int .i64 c1d.seeds,.bool c1d.stores,.bool c1d.skip,.bool c1d.relay,.bool c1d.feed,.bool c1d.again,.int .i64 c1d.capture,.int .i64 c1d.slam,.int .i64 c1b,.slice As_10 s_sown.pits.length cs_10,.slice As_11 s_sown.stores.length cs_11,.int .i64 s_sown.last,.int .i64 s_sown.laps,.slice As_14 s_path.length cs_14] 77,rowO 2 1 (.slice As_10 s_sown.pits.length cs_10) s_sown.pits.length (ints_ s_sown.pits) gs_10,rowO 2 1 (.slice As_11 s_sown.stores.length cs_11) s_sown.stores.length (ints_ s_sown.stores) gs_11,rowO 2 1 (.slice As_14 s_path.length cs_14) s_path.length (ints_ s_path) gs_14] (λv bs'=>∃ (Axs_10:Option Addr) (cxs_10:Nat) (gxs_10:List Nat) (Axs_11:Option Addr) (cxs_11:Nat) (gxs_11:List Nat) (Axs_14:Option Addr) (cxs_14:Nat) (gxs_14:List Nat),v=.bool ((M.mvT c1d c1b 100 from_ s_sown s_path).1)/\bs'=[boxO bs [.int .i64 c1d.pits,.int .i64 c1d.seeds,.bool c1d.stores,.bool c1d.skip,.bool c1d.relay,.bool c1d.feed,.bool c1d.again,.int .i64 c1d.capture,.int .i64 c1d.slam,.int .i64 c1b,.slice Axs_10 ((((M.mvT c1d c1b 100 from_ s_sown s_path).2.1).pits).length) cxs_10,.slice Axs_11 ((((M.mvT c1d c1b 100 from_ s_sown s_path).2.1).stores).length) cxs_11,.int .i64 (((M.mvT c1d c1b 100 from_ s_sown s_path).2.1).last),.int .i64 (((M.mvT c1d c1b 100 from_ s_sown s_path).2.1).laps),.slice Axs_14 (((M.mvT c1d c1b 100 from_ s_sown s_path).2.2).length) cxs_14] 77,rowO 2 1 (.slice Axs_10 ((((M.mvT c1d c1b 100 from_ s_sown s_path).2.1).pits).length) cxs_10) ((((M.mvT c1d c1b 100 from_ s_sown s_path).2.1).pits).length) (ints_ (((M.mvT c1d c1b 100 from_ s_sown s_path).2.1).pits)) gxs_10,rowO 2 1 (.slice Axs_11 ((((M.mvT c1d c1b 100 from_ s_sown s_path).2.1).stores).length) cxs_11) ((((M.mvT c1d c1b 100 from_ s_sown s_path).2.1).stores).length) (ints_ (((M.mvT c1d c1b 100 from_ s_sown s_path).2.1).stores)) gxs_11,rowO 2 1 (.slice Axs_14 (((M.mvT c1d c1b 100 from_ s_sown s_path).2.2).length) cxs_14) (((M.mvT c1d c1b 100 from_ s_sown s_path).2.2).length) (ints_ ((M.mvT c1d c1b 100 from_ s_sown s_path).2.2)) gxs_14]/\(((M.mvT c1d c1b 100 from_ s_sown s_path).2.1).pits).length<=cxs_10/\cxs_10<=9223372036854775807/\(((M.mvT c1d c1b 100 from_ s_sown s_path).2.1).stores).length<=cxs_11/\cxs_11<=9223372036854775807/\((M.mvT c1d c1b 100 from_ s_sown s_path).2.2).length<=cxs_14/\cxs_14<=9223372036854775807):=by
 refine enterB hb @Tryz.func103 @Tryz.ntmps103 rfl rfl ?_
 refine zent ?_
 refine Js.trashE ?_
 refine zn ?_
 refine zS<|Qa rfl<|zJ<|Js.block ?_
 refine zl [0] (λF U l os u m=>∃ (frm:Int) (sw:M.Sw) (path:List Int) (A1_0_10:Option Addr) (c1_0_10:Nat) (g1_0_10:List Nat) (A1_0_11:Option Addr) (c1_0_11:Nat) (g1_0_11:List Nat) (A1_0_14:Option Addr) (c1_0_14:Nat) (g1_0_14:List Nat) (G1_4:List Nat),l=F [(1,.int .i64 frm)]/\os=U [some (boxO bs [.int .i64 c1d.pits,.int .i64 c1d.seeds,.bool c1d.stores,.bool c1d.skip,.bool c1d.relay,.bool c1d.feed,.bool c1d.again,.int .i64 c1d.capture,.int .i64 c1d.slam,.int .i64 c1b,.slice A1_0_10 sw.pits.length c1_0_10,.slice A1_0_11 sw.stores.length c1_0_11,.int .i64 sw.last,.int .i64 sw.laps,.slice A1_0_14 path.length c1_0_14] 77),some (rowO 2 1 (.slice A1_0_10 sw.pits.length c1_0_10) sw.pits.length (ints_ sw.pits) g1_0_10),some (rowO 2 1 (.slice A1_0_11 sw.stores.length c1_0_11) sw.stores.length (ints_ sw.stores) g1_0_11),some (rowO 2 1 (.slice A1_0_14 path.length c1_0_14) path.length (ints_ path) g1_0_14),some (anyO G1_4)]/\(M.mvT c1d c1b (100 - sw.laps).toNat frm sw path=M.mvT c1d c1b 100 from_ s_sown s_path)/\(M.Good c1d sw.pits sw.stores 0)/\(0<=frm)/\(frm < 2 * c1d.pits)/\(0 < M.getI sw.pits frm)/\(0<=sw.laps)/\(sw.laps<=99)/\(path.length<=96 * sw.laps)/\(sw.pits.length<=c1_0_10)/\(c1_0_10<=9223372036854775807)/\(sw.stores.length<=c1_0_11)/\(c1_0_11<=9223372036854775807)/\(path.length<=c1_0_14)/\(c1_0_14<=9223372036854775807)/\m=(100 - sw.laps).toNat) ⟨from_,s_sown,s_path,_,_,_,_,_,_,_,_,_,_,rfl,rfl,by rw[r7];rfl,by exact r5,zt,zt,by exact r6,zt,zt,zt,zu,zu,zu,zu,zu,zu,rfl⟩ ?_
 rintro _ _ u1 _ ⟨frm,sw,path,A1_0_10,c1_0_10,g1_0_10,A1_0_11,c1_0_11,g1_0_11,A1_0_14,c1_0_14,g1_0_14,G1_4,rfl,rfl,hS,hG,f0,f1,hg,la0,la1,hl,f1_8,f1_9,f1_10,f1_11,f1_12,f1_13,rfl⟩ x1
 refine zn ?_
 obtain⟨ha,hb1,hc,hd,he,hf⟩:=M.a7g c1d path r1 r0 r2 f0 f1 hG
 refine Js.seq<|zS<|Qm rfl<|Qm rfl<|zBB 4 sp_ rfl (λw hb _ hw=>zq145 c1d c1b sw path frm hb) ?_
 rintro _ _ G2 ⟨A2s_10,c2s_10,g2s_10,A2s_11,c2s_11,g2s_11,A2s_14,c2s_14,g2s_14,rfl,rfl,bl2_0,bl2_1,bl2_2,bl2_3,bl2_4,bl2_5⟩
 refine znl ?_
 refine JL.nil ?_
 refine zi (λh3 h3'=>?_) λh3 h3'=>?_
 ·have hm2:=M.b8l h3
  refine Js.skip<|Js.block<|Js.seq<|zS<|Qm rfl<|Qc rfl<|Qf fh rfl<|Qf fh rfl<|Q0 0 rfl rfl rfl<|Qe rfl rfl<|JL.nil ?_
  refine zi (λh4 h4'=>?_) λh4 h4'=>?_
  ·have hL:M.mvT c1d c1b 100 from_ s_sown s_path=(false,(M.lap c1d c1b frm sw path).1,(M.lap c1d c1b frm sw path).2):=by rw[<- hS,show(100 - sw.laps).toNat=0 + 1 by omega,M.b2w (by assumption)];rfl
   refine zS<|Qa rfl<|JL.nil ?_
   refine zrb [0,0,0,0] hb x1 ?_
   have hE:(.bool false:Value)=.bool ((M.mvT c1d c1b 100 from_ s_sown s_path).1):=by rw[hL]
   have hN11:(((M.mvT c1d c1b 100 from_ s_sown s_path).2.1).pits).length=(((M.lap c1d c1b frm sw path).1).pits).length:=by rw[hL]
   have hE11:((M.mvT c1d c1b 100 from_ s_sown s_path).2.1).pits=(((M.lap c1d c1b frm sw path).1).pits):=by rw[hL]
   have hN12:(((M.mvT c1d c1b 100 from_ s_sown s_path).2.1).stores).length=(((M.lap c1d c1b frm sw path).1).stores).length:=by rw[hL]
   have hE12:((M.mvT c1d c1b 100 from_ s_sown s_path).2.1).stores=(((M.lap c1d c1b frm sw path).1).stores):=by rw[hL]
   have hE13:((M.mvT c1d c1b 100 from_ s_sown s_path).2.1).last=(((M.lap c1d c1b frm sw path).1).last):=by rw[hL]
   have hE14:((M.mvT c1d c1b 100 from_ s_sown s_path).2.1).laps=(((M.lap c1d c1b frm sw path).1).laps):=by rw[hL]
   have hN15:((M.mvT c1d c1b 100 from_ s_sown s_path).2.2).length=((M.lap c1d c1b frm sw path).2).length:=by rw[hL]
   have hE15:(M.mvT c1d c1b 100 from_ s_sown s_path).2.2=((M.lap c1d c1b frm sw path).2):=by rw[hL]
   refine⟨A2s_10,c2s_10,g2s_10,A2s_11,c2s_11,g2s_11,A2s_14,c2s_14,g2s_14,hE, ?_, ?_, ?_, ?_, ?_, ?_, ?_⟩
   · rw[hN11,hE11,hN12,hE12,hE13,hE14,hN15,hE15]
   all_goals (first|(rw[hN11,hE11,hN12,hE12,hE13,hE14,hN15,hE15];omega)|omega|(simp only[*];omega)|(simp;done))
  have hS2:M.mvT c1d c1b (100 - (M.lap c1d c1b frm sw path).1.laps).toNat (M.lap c1d c1b frm sw path).1.last (M.lap c1d c1b frm sw path).1 (M.lap c1d c1b frm sw path).2=M.mvT c1d c1b 100 from_ s_sown s_path:=by rw[<- hS,hf,show(100 - sw.laps).toNat=(100 - (sw.laps + 1)).toNat + 1 by omega,M.b2w (by assumption)]
  refine Js.skip<|Js.region<|Qm rfl<|Qc rfl<|Qf fh rfl<|Qf fh rfl<|Q0 0 rfl rfl rfl<|Qa rfl<|JL.nil<|Js.blockEnd ?_
  refine zf [0,0,0,0] λGG5=>?_
  refine zn ?_
  exact zag ⟨((M.lap c1d c1b frm sw path).1).last,(M.lap c1d c1b frm sw path).1,(M.lap c1d c1b frm sw path).2,_,_,_,_,_,_,_,_,_,_,rfl,rfl,by exact hS2,by exact ha,by exact hm2.1,by exact hc,by omega,by omega,by omega,by omega,zu,zu,zu,zu,zu,zu,rfl⟩ x1
 have hL:M.mvT c1d c1b 100 from_ s_sown s_path=(true,(M.lap c1d c1b frm sw path).1,(M.lap c1d c1b frm sw path).2):=by rw[<- hS,show(100 - sw.laps).toNat=(99 - sw.laps).toNat + 1 by omega,M.mvT_no h3]
 refine zx ?_
 refine zS<|Qa rfl<|JL.nil ?_
 refine zrb [0,0,0,0] hb x1 ?_
 have hE:(.bool true:Value)=.bool ((M.mvT c1d c1b 100 from_ s_sown s_path).1):=by rw[hL]
 have hN11:(((M.mvT c1d c1b 100 from_ s_sown s_path).2.1).pits).length=(((M.lap c1d c1b frm sw path).1).pits).length:=by rw[hL]
 have hE11:((M.mvT c1d c1b 100 from_ s_sown s_path).2.1).pits=(((M.lap c1d c1b frm sw path).1).pits):=by rw[hL]
 have hN12:(((M.mvT c1d c1b 100 from_ s_sown s_path).2.1).stores).length=(((M.lap c1d c1b frm sw path).1).stores).length:=by rw[hL]
 have hE12:((M.mvT c1d c1b 100 from_ s_sown s_path).2.1).stores=(((M.lap c1d c1b frm sw path).1).stores):=by rw[hL]
 have hE13:((M.mvT c1d c1b 100 from_ s_sown s_path).2.1).last=(((M.lap c1d c1b frm sw path).1).last):=by rw[hL]
 have hE14:((M.mvT c1d c1b 100 from_ s_sown s_path).2.1).laps=(((M.lap c1d c1b frm sw path).1).laps):=by rw[hL]
 have hN15:((M.mvT c1d c1b 100 from_ s_sown s_path).2.2).length=((M.lap c1d c1b frm sw path).2).length:=by rw[hL]
 have hE15:(M.mvT c1d c1b 100 from_ s_sown s_path).2.2=((M.lap c1d c1b frm sw path).2):=by rw[hL]
 refine⟨A2s_10,c2s_10,g2s_10,A2s_11,c2s_11,g2s_11,A2s_14,c2s_14,g2s_14,hE, ?_, ?_, ?_, ?_, ?_, ?_, ?_⟩
 · rw[hN11,hE11,hN12,hE12,hE13,hE14,hN15,hE15]
 all_goals (first|(rw[hN11,hE11,hN12,hE12,hE13,hE14,hN15,hE15];omega)|omega|(simp only[*];omega)|(simp;done))
theorem zq147(r:M.Rul){v_r:Value}(p:M.Pos){v_p:Value}(move:Int){w:World}(h_r:(Ty.agg (cRules r)).ok w v_r)(h_p:(Ty.agg (cPosition p)).ok w v_p)(r0:p.pits.length<=4194304:=by exact om_)(r1:p.stores.length<=4194304:=by exact om_):Ret Tryz.prog 45 [v_r,v_p,.int .i64 move] w (Ty.tup [Ty.opt (decide ((M.sowMove r p move).1=0)) (Ty.box 77 (csowing (M.Sow.mk r p.player (M.sowMove r p move).2.1 (M.sowMove r p move).2.2))),Ty.int ((M.sowMove r p move).1)]):=by
 revert v_r;apply opn
 revert v_p;apply opn
 intro A1 c1 h1 bl1 bh1 A2 c2 h2 bl2 bh2
 refine enter @Tryz.func45 @Tryz.ntmps45 rfl rfl ?_
 refine zent ?_
 refine zS<|zb rfl λb3=>zb rfl λb4=>Qa rfl<|Qa rfl<|zJ<|zS<|Q9 1 rfl rfl ?_
 refine Q9 0 rfl rfl ?_
 refine Qm rfl<|zv rfl (λw hw=>zq129 r p move (ok_ hw) (ok_ hw))<|Qa rfl<|zN<|Qm rfl<|Qd rfl rfl<|JL.nil ?_
 refine zi (λh5 h5'=>?_) λh5 h5'=>?_
 ·have hn:M.sowCode r p move≠0:=by simpa using h5
  have hM:=M.a5e hn
  have hM0:¬ M.sowCode r p move=0:=hn
  have hq0:(decide ((M.sowMove r p move).1=0))=false:=by rw[hM];simpa using hM0
  have hq1:(M.sowCode r p move)=(M.sowMove r p move).1:=by rw[hM]
  refine zS<|Qm rfl<|Qa rfl<|Qa rfl<|JL.nil ?_
  exact zro (Up.refl _ _)
 have hc0:M.sowCode r p move=0:=by simpa using h5
 obtain⟨hok,m0,m1,hg0⟩:=M.b1k hc0
 obtain⟨g1,g2,g3,g4,g5,g6,g7⟩:=M.a0y hok
 have hq:=M.a6u g7 g1 g2
 have hG:=M.Good.of_ok hok
 refine Js.skip<|zS<|Q9 1 rfl rfl ?_
 refine Q9 0 rfl rfl ?_
 refine zcs rfl (λw hw=>zq144 r p (ok_ hw) (ok_ hw)) ?_
 intro b6 A7 c7 bl7 bh7 A8 c8 bl8 bh8 A9 c9 bl9 bh9
 refine Qa rfl<|zJ<|zS<|Qm rfl<|Q9 5 rfl rfl ?_
 refine Qf fh rfl<|Q0 4 rfl rfl rfl<|Qm rfl<|zv rfl (λw hw=>zq69 r p.player move (ok_ hw)) ?_
 refine zhl [0,2,1,0] ?_
 refine zB 4 sp_ rfl (λw hb hw=>zq146 r p.player (M.Sw.mk p.pits p.stores 0 0) [] (p.player * r.pits + move) hb (r5:=hG) (r6:=hg0) (r7:=rfl) (r8:=rfl)) ?_
 rintro _ _ G10 ⟨A10s_10,c10s_10,g10s_10,A10s_11,c10s_11,g10s_11,A10s_14,c10s_14,g10s_14,rfl,rfl,bl10_0,bl10_1,bl10_2,bl10_3,bl10_4,bl10_5⟩
 refine znl ?_
 refine Qt rfl<|JL.nil ?_
 refine zi (λh11 h11'=>?_) λh11 h11'=>?_
 ·have hM:=M.a6l hc0 (by simpa using h11)
  have hq0:(decide ((M.sowMove r p move).1=0))=false:=by rw[hM];rfl
  have hq1:10=(M.sowMove r p move).1:=by rw[hM]
  refine zS<|Qa rfl<|Qa rfl<|JL.nil ?_
  exact zro (Up.refl _ _)
 have hM:=M.a9r hc0 (by simpa using h11)
 have hq0:(decide ((M.sowMove r p move).1=0))=true:=by rw[hM];rfl
 have hq1:(((M.mvT r p.player 100 (p.player * r.pits + move) (M.Sw.mk p.pits p.stores 0 0) []).2.1).pits)=((M.sowMove r p move).2.1).pits:=by rw[hM]
 have hq2:(((M.mvT r p.player 100 (p.player * r.pits + move) (M.Sw.mk p.pits p.stores 0 0) []).2.1).stores)=((M.sowMove r p move).2.1).stores:=by rw[hM]
 have hq3:(((M.mvT r p.player 100 (p.player * r.pits + move) (M.Sw.mk p.pits p.stores 0 0) []).2.1).last)=((M.sowMove r p move).2.1).last:=by rw[hM]
 have hq4:(((M.mvT r p.player 100 (p.player * r.pits + move) (M.Sw.mk p.pits p.stores 0 0) []).2.1).laps)=((M.sowMove r p move).2.1).laps:=by rw[hM]
 have hq5:((M.mvT r p.player 100 (p.player * r.pits + move) (M.Sw.mk p.pits p.stores 0 0) []).2.2)=(M.sowMove r p move).2.2:=by rw[hM]
 have hq6:0=(M.sowMove r p move).1:=by rw[hM]
 refine Js.skip<|zS<|Qm rfl<|Qa rfl<|Qa rfl<|JL.nil ?_
 exact zro (Up.refl _ _)
theorem zq82(r:M.Rul){v_r:Value}(s:M.Sw){v_s:Value}(player:Int){w:World}(h_r:(Ty.agg (cRules r)).ok w v_r)(h_s:(Ty.agg (cSown s)).ok w v_s)(r0:2<=r.pits:=by exact om_)(r1:r.pits<=8:=by exact om_)(r2:player=0\/player=1:=by exact om_)(r3:M.Good r s.pits s.stores 0:=by exact om_)(r4 : -1<=s.last:=by exact om_)(r5:s.last < 2 * r.pits:=by exact om_):Ret Tryz.prog 92 [v_r,v_s,.int .i64 player] w (Ty.ints 2 (M.taken r s player)):=by
 have l1:=r3.lp
 have l2:=r3.ls
 have hv:0<=M.getI s.pits s.last:=M.nn_nth r3.np _
 have hv9:=r3.pit s.last
 revert v_r;apply opn
 revert v_s;apply opn
 intro A1 c1 h1 bl1 bh1 A2 c2 h2 bl2 bh2
 refine enter @Tryz.func92 @Tryz.ntmps92 rfl rfl ?_
 refine zent ?_
 obtain⟨b3,o3,rfl⟩:=a2i h1 (by omega)
 refine zS<|zb rfl λb4=>zb rfl λb5=>Qa rfl<|zN<|zbs λb6=>?_
 refine Qa rfl<|zJ<|zS<|Qf fh rfl<|Q0 1 rfl rfl rfl<|Ql rfl rfl<|JL.nil ?_
 refine zi (λh8 h8'=>?_) λh8 h8'=>?_
 ·have hR:M.taken r s player=[]:=by unfold M.taken;rw[if_pos (by simpa using h8)]
  have hq0:[]=M.taken r s player:=by rw[hR]
  refine zS<|Qm rfl<|Qa rfl<|JL.nil ?_
  exact zro (Up.refl _ _)
 have hl0:¬ s.last < 0:=by simpa using h8
 refine Js.skip<|zS<|Q9 2 rfl rfl ?_
 refine Qf fh rfl<|Q0 1 rfl rfl rfl<|zv rfl (λw hw=>zq36 r s.last (ok_ hw))<|Qm rfl<|Qe rfl rfl<|Qa rfl<|zJ<|zS<|Qf fh rfl<|Q0 2 rfl rfl rfl<|JL.nil<|Js.block<|zS<|Qe rfl rfl ?_
 refine Qa rfl<|JL.nil ?_
 refine zi (λh9 h9'=>?_) λh9 h9'=>?_
 ·have hcap:r.capture=1:=by simpa using h9
  refine zS<|Qf fh rfl<|Q0 1 rfl rfl rfl<|Qa rfl<|JL.nil<|Js.block ?_
  refine zl [2,3,4] (λF U l os u m=>∃ (k:Int) (out:List Int) (A10_7:Option Addr) (c10_7:Nat) (g10_7:List Nat),l=F [(7,.slice A10_7 out.length c10_7),(9,.int .i64 k)]/\os=U [some (rowO 2 1 (.slice A10_7 out.length c10_7) out.length (ints_ out) g10_7)]/\(out++M.ttI r player s.pits k=M.ttI r player s.pits s.last)/\(-1<=k)/\(k < 2 * r.pits)/\((out.length:Int) + k=s.last)/\(out.length<=c10_7)/\(c10_7<=9223372036854775807)/\m=(k + 1).toNat) ⟨s.last,[],_,_,_,rfl,rfl,by rfl,zt,zt,by simp,zu,zu,rfl⟩ ?_
  rintro _ _ u10 _ ⟨k,out,A10_7,c10_7,g10_7,rfl,rfl,hS,k0,k1,hl,f10_4,f10_5,rfl⟩ x10
  refine zn ?_
  refine Js.seq<|zS<|Qm rfl<|Qh rfl rfl<|Qm rfl<|zgq (Gd.t1 rfl rfl rfl) (λhc=>L9 2 rfl rfl)<|zg (Gd.t1 rfl rfl rfl) (λhc=>a0e rfl)<|zgv (Gd.t1 rfl rfl rfl) (λhc=>(a2d (gh hc rfl) (gh hc rfl))) (λhc=>(λw hw=>zq36 r k (ok_ hw) (r0:=(oh_ hc)) (r1:=(oh_ hc)) (r2:=(oh_ hc)) (r3:=(oh_ hc)))) ?_
  refine zg (Gd.t1 rfl rfl rfl) (λhc=>a0e rfl)<|zg (Gd.t1 rfl rfl rfl) (λhc=>p_neq (gh hc rfl) (gh hc rfl))<|Qq (a0d rfl rfl rfl)<|Qm rfl<|zg (Gd.t1 rfl rfl rfl) (λhc=>a0b a1c.h rfl)<|zgq (Gd.t1 rfl rfl rfl) (λhc=>a0c ty_26.h (gh hc rfl) (Mem.box (i:=1) rfl rfl))<|zg (Gd.t1 rfl rfl rfl) (λhc=>a0e rfl)<|zg (Gd.t1 rfl rfl rfl) (λhc=>a0a el_26 (gh hc rfl) (gh hc rfl) (by have hc9:=hc;(try simp only[Bool.and_eq_true,decide_eq_true_eq,Bool.not_eq_true',decide_eq_false_iff_not] at hc9);omega) (by have hc9:=hc;(try simp only[Bool.and_eq_true,decide_eq_true_eq,Bool.not_eq_true',decide_eq_false_iff_not] at hc9);omega) rfl) ?_
  refine zgq (Gd.t1 rfl rfl rfl) (λhc=>a0c ty_2.h (gh hc rfl) (Mem.pub (a1g (i:=k) (Ty.mono _ h1 x10.vis) (by have hc9:=hc;(try simp only[Bool.and_eq_true,decide_eq_true_eq,Bool.not_eq_true',decide_eq_false_iff_not] at hc9);omega)))) ?_
  refine zgv (Gd.t1 rfl rfl rfl) (λhc=>(a1o (gh hc rfl) rfl rfl)) (λhc=>(λw hw=>zq7 (M.getI s.pits k) 2 3)) ?_
  refine Qq (a0d rfl rfl rfl)<|JL.nil ?_
  refine zi (λh12 h12'=>?_) λh12 h12'=>?_
  ·obtain⟨⟨c0,c1⟩,c2⟩:(0<=k/\¬ M.owner r k=player)/\M.betw (M.getI s.pits k) 2 3=true:=by simpa using h12
   have hS2:(out++[k])++M.ttI r player s.pits (k - 1)=M.ttI r player s.pits s.last:=by rw[<- hS,M.ttI_yes c0 c1 c2];simp
   refine Js.skip<|Js.seq<|Js.block<|Js.region<|Qm rfl<|Qm rfl<|zbs λb13=>?_
   refine JL.e (a0g (i:=1) (n':=(out++[k]).length) (vs':=ints_ (out++[k])) el_26 rfl rfl rfl rfl (a0k (i:=0) a1h rfl rfl) (by omega) (by omega) ln2_ (by simp[ints_])) ?_
   rintro v15 _ _ ⟨⟨g16,rfl⟩,rfl⟩ _
   refine JL.fact (row_form' (i:=1) rfl) (λhf17=>?_)
   obtain⟨A17,c17,rfl,bl17,bh17⟩:=hf17
   refine znl ?_
   refine Qa rfl<|JL.nil<|Js.blockEnd<|Js.region<|Qm rfl<|Qs rfl rfl<|Qa rfl<|JL.nil ?_
   refine zd [1,1,1] rfl λu18 x18=>?_
   exact zag ⟨k - 1,out++[k],_,_,_,rfl,rfl,by exact hS2,zt,zt,by simp only[List.length_append,List.length_cons,List.length_nil];omega,zu,zu,rfl⟩ (x10.trans x18)
  have hF:M.ttI r player s.pits k=[]:=by rcases h12' with(h|h)|h;exact M.ttI_neg h;exact M.b8y (.inl h);exact M.b8y (.inr h)
  rw[hF,List.append_nil] at hS
  have hR:M.taken r s player=out:=by unfold M.taken;rw[if_neg hl0,if_pos hcap,hS];simp[M.ttI,hl0]
  refine zx ?_
  have hq0:out=M.taken r s player:=by rw[hR]
  refine Js.blockEnd<|zS<|Qm rfl<|Qa rfl<|JL.nil ?_
  exact zro x10
 have hcap1:¬ r.capture=1:=by simpa using h9
 refine zS<|Qe rfl rfl<|Qa rfl<|JL.nil ?_
 refine zi (λh19 h19'=>?_) λh19 h19'=>?_
 ·have hcap:r.capture=2:=by simpa using h19
  have ho:M.opp r s.last=2 * r.pits - 1 - s.last:=rfl
  have ho:M.opp r s.last=2 * r.pits - 1 - s.last:=rfl
  refine zS<|Q9 2 rfl rfl ?_
  refine Qf fh rfl<|Q0 1 rfl rfl rfl<|zv rfl (λw hw=>zq128 r s.last (ok_ hw))<|Qa rfl<|zN<|Qm rfl<|Qm rfl<|zg (Gd.t1 rfl rfl rfl) (λhc=>a0b a1c.h rfl)<|zgq (Gd.t1 rfl rfl rfl) (λhc=>a0c ty_26.h (gh hc rfl) (Mem.box (i:=1) rfl rfl))<|zg (Gd.t1 rfl rfl rfl) (λhc=>a0b a3t.h rfl)<|zgq (Gd.t1 rfl rfl rfl) (λhc=>a0c ty_2.h (gh hc rfl) (Mem.box (i:=1) rfl rfl))<|zg (Gd.t1 rfl rfl rfl) (λhc=>a0a el_26 (gh hc rfl) (gh hc rfl) (oh_ hc) (oh_ hc) rfl) ?_
  refine zgq (Gd.t1 rfl rfl rfl) (λhc=>a0c ty_2.h (gh hc rfl) (Mem.pub (a1g (i:=s.last) h1 (oh_ hc)))) ?_
  refine zg (Gd.t1 rfl rfl rfl) (λhc=>p_eql (gh hc rfl) rfl)<|Qq (a0d rfl rfl rfl)<|Qm rfl<|zg (Gd.t1 rfl rfl rfl) (λhc=>a0b a1c.h rfl)<|zgq (Gd.t1 rfl rfl rfl) (λhc=>a0c ty_26.h (gh hc rfl) (Mem.box (i:=1) rfl rfl))<|zg (Gd.t1 rfl rfl rfl) (λhc=>a0e rfl)<|zg (Gd.t1 rfl rfl rfl) (λhc=>a0a el_26 (gh hc rfl) (gh hc rfl) (by have hc9:=hc;(try simp only[Bool.and_eq_true,decide_eq_true_eq] at hc9);omega) (by have hc9:=hc;(try simp only[Bool.and_eq_true,decide_eq_true_eq] at hc9);omega) rfl) ?_
  refine zgq (Gd.t1 rfl rfl rfl) (λhc=>a0c ty_2.h (gh hc rfl) (Mem.pub (a1g (i:=M.opp r s.last) h1 (by have hc9:=hc;(try simp only[Bool.and_eq_true,decide_eq_true_eq] at hc9);omega)))) ?_
  refine zg (Gd.t1 rfl rfl rfl) (λhc=>p_gtr (gh hc rfl) rfl)<|Qq (a0d rfl rfl rfl)<|JL.nil ?_
  refine zi (λh22 h22'=>?_) λh22 h22'=>?_
  ·have hR:M.taken r s player=[s.last,M.opp r s.last]:=by unfold M.taken;rw[if_neg hl0,if_neg hcap1,if_pos hcap,if_pos (by simpa[and_assoc] using h22)]
   refine Js.region<|Qm rfl<|Qf fh rfl<|Q0 1 rfl rfl rfl<|Qm rfl<|zbs λb23=>?_
   refine JL.e (a0g (i:=1) (n':=2) (vs':=ints_ [s.last,(M.opp r s.last)]) el_26 rfl rfl rfl rfl (a0k (i:=0) a1h rfl rfl) (by omega) (by omega) ln2_ (by simp[ints_])) ?_
   rintro v25 _ _ ⟨⟨g26,rfl⟩,rfl⟩ _
   refine JL.fact (row_form' (i:=1) rfl) (λhf27=>?_)
   obtain⟨A27,c27,rfl,bl27,bh27⟩:=hf27
   refine znl ?_
   have hq0:[s.last,(M.opp r s.last)]=M.taken r s player:=by rw[hR]
   refine Qa rfl<|JL.nil<|Js.blockEnd<|zS<|Qm rfl<|Qa rfl<|JL.nil ?_
   exact zro (Up.refl _ _)
  have hR:M.taken r s player=[]:=by unfold M.taken;rw[if_neg hl0,if_neg hcap1,if_pos hcap,if_neg (by simpa[and_assoc] using h22)]
  have hq0:[]=M.taken r s player:=by rw[hR]
  refine Js.skip<|Js.blockEnd<|zS<|Qm rfl<|Qa rfl<|JL.nil ?_
  exact zro (Up.refl _ _)
 have hcap2:¬ r.capture=2:=by simpa using h19
 refine zS<|Qe rfl rfl<|Qa rfl<|JL.nil ?_
 refine zi (λh28 h28'=>?_) λh28 h28'=>?_
 ·have hcap:r.capture=3:=by simpa using h28
  refine zS<|Qm rfl<|Qt rfl<|Qm rfl<|zg (Gd.t1 rfl rfl rfl) (λhc=>a0b a1c.h rfl)<|zgq (Gd.t1 rfl rfl rfl) (λhc=>a0c ty_26.h (gh hc rfl) (Mem.box (i:=1) rfl rfl))<|zg (Gd.t1 rfl rfl rfl) (λhc=>a0b a3t.h rfl)<|zgq (Gd.t1 rfl rfl rfl) (λhc=>a0c ty_2.h (gh hc rfl) (Mem.box (i:=1) rfl rfl))<|zg (Gd.t1 rfl rfl rfl) (λhc=>a0a el_26 (gh hc rfl) (gh hc rfl) (by have hc9:=hc;(try simp only[Bool.not_eq_true',decide_eq_false_iff_not] at hc9);omega) (by have hc9:=hc;(try simp only[Bool.not_eq_true',decide_eq_false_iff_not] at hc9);omega) rfl) ?_
  refine zgq (Gd.t1 rfl rfl rfl) (λhc=>a0c ty_2.h (gh hc rfl) (Mem.pub (a1g (i:=s.last) h1 (by have hc9:=hc;(try simp only[Bool.not_eq_true',decide_eq_false_iff_not] at hc9);omega)))) ?_
  refine zg (Gd.t1 rfl rfl rfl) (λhc=>p_rem (gh hc rfl) rfl (by have hc9:=hc;(try simp only[Bool.not_eq_true',decide_eq_false_iff_not] at hc9);omega) (Int.tmod_eq_emod_of_nonneg (by have hc9:=hc;(try simp only[Bool.not_eq_true',decide_eq_false_iff_not] at hc9);omega))) ?_
  refine zg (Gd.t1 rfl rfl rfl) (λhc=>p_eql (gh hc rfl) rfl)<|Qq (a0d rfl rfl rfl)<|JL.nil ?_
  refine zi (λh30 h30'=>?_) λh30 h30'=>?_
  ·have hR:M.taken r s player=[s.last]:=by unfold M.taken;rw[if_neg hl0,if_neg hcap1,if_neg hcap2,if_pos hcap,if_pos (by simpa using h30)]
   refine Js.region<|Qm rfl<|Qf fh rfl<|Q0 1 rfl rfl rfl<|zbs λb31=>?_
   refine JL.e (a0g (i:=1) (n':=1) (vs':=ints_ [s.last]) el_26 rfl rfl rfl rfl (a0k (i:=0) a1h rfl rfl) (by omega) (by omega) ln2_ (by simp[ints_])) ?_
   rintro v33 _ _ ⟨⟨g34,rfl⟩,rfl⟩ _
   refine JL.fact (row_form' (i:=1) rfl) (λhf35=>?_)
   obtain⟨A35,c35,rfl,bl35,bh35⟩:=hf35
   refine znl ?_
   have hq0:[s.last]=M.taken r s player:=by rw[hR]
   refine Qa rfl<|JL.nil<|Js.blockEnd<|zS<|Qm rfl<|Qa rfl<|JL.nil ?_
   exact zro (Up.refl _ _)
  have hR:M.taken r s player=[]:=by unfold M.taken;rw[if_neg hl0,if_neg hcap1,if_neg hcap2,if_pos hcap,if_neg (by simpa using h30)]
  have hq0:[]=M.taken r s player:=by rw[hR]
  refine Js.skip<|Js.blockEnd<|zS<|Qm rfl<|Qa rfl<|JL.nil ?_
  exact zro (Up.refl _ _)
 have hcap3:¬ r.capture=3:=by simpa using h28
 have hR:M.taken r s player=[]:=by unfold M.taken;rw[if_neg hl0,if_neg hcap1,if_neg hcap2,if_neg hcap3]
 have hq0:[]=M.taken r s player:=by rw[hR]
 refine Js.skip<|Js.blockEnd<|zS<|Qm rfl<|Qa rfl<|JL.nil ?_
 exact zro (Up.refl _ _)
theorem zq83(r:M.Rul){v_r:Value}(s:M.Sw){v_s:Value}(player:Int){w:World}(h_r:(Ty.agg (cRules r)).ok w v_r)(h_s:(Ty.agg (cSown s)).ok w v_s)(r0:2<=r.pits:=by exact om_)(r1:r.pits<=8:=by exact om_)(r2:player=0\/player=1:=by exact om_)(r3:M.Good r s.pits s.stores 0:=by exact om_)(r4 : -1<=s.last:=by exact om_)(r5:s.last < 2 * r.pits:=by exact om_):RetV Tryz.prog 46 [v_r,v_s,.int .i64 player] w (.bool (M.slams r s player)):=by
 have l1:=r3.lp
 have l2:=r3.ls
 have hao:=M.Good.ok r3
 have hlen:=M.b0m (s:=s) (player:=player) r5 r1
 revert v_r;apply opn
 revert v_s;apply opn
 intro A1 c1 h1 bl1 bh1 A2 c2 h2 bl2 bh2
 refine enter @Tryz.func46 @Tryz.ntmps46 rfl rfl ?_
 refine zent ?_
 obtain⟨b3,o3,rfl⟩:=a2i h1 (by omega)
 refine zS<|zb rfl λb4=>zb rfl λb5=>Qa rfl<|zN<|Q9 1 rfl rfl ?_
 refine Qf fh rfl<|Q0 0 rfl rfl rfl<|Qm rfl<|Qs rfl rfl<|zv rfl (λw hw=>zq37 r s.pits (1 - player) (ok_ hw) (ok_ hw) (r4:=hao.1))<|Qa rfl<|Qa rfl<|zJ<|zS<|Q9 1 rfl rfl ?_
 refine Q9 0 rfl rfl ?_
 refine Qm rfl<|zp rfl (λw hw=>zq82 r s player (ok_ hw) (ok_ hw) (r3:=r3)) ?_
 intro u6 x6 A7 c7 h7 bl7 bh7
 refine Qz rfl<|Qm rfl<|JL.nil<|Js.block ?_
 refine zl [2,3,4,7,20,21] (λF U l os u m=>∃ (k:Nat) (g:Int),l=F [(8,.int .i64 g),(22,.int .i64 (k:Int))]/\os=U []/\(g + M.gone r s player ((M.taken r s player).drop k)=M.gone r s player (M.taken r s player))/\(k<=(M.taken r s player).length)/\(0<=g)/\(g<=96 * k)/\m=(M.taken r s player).length - k) ⟨0,0,rfl,rfl,by simp,zt,zt,zt,rfl⟩ ?_
 rintro _ _ u8 _ ⟨k,g,rfl,rfl,hS,hk,g0,g1,rfl⟩ x8
 refine zn ?_
 refine zS<|Ql rfl rfl<|zJ ?_
 refine zi (λh9 h9'=>?_) λh9 h9'=>?_
 ·have hk2:k < (M.taken r s player).length:=by have:=h9;simp at this;omega
  have hx:=M.a9y (r:=r) (s:=s) (player:=player) r5 (M.a2w hk2)
  have hvx:=r3.pit (M.nth (M.taken r s player) k)
  have hS1:=hS
  rw[M.a3r hk2,M.b5h] at hS1
  obtain⟨b10,o10,he10,hc10⟩:=a0l (Ty.mono _ h7 x8.vis) (i:=k) (by omega)
  refine Js.skip<|Js.seq<|Js.block<|zS<|Qq (a0a el_26 rfl rfl (by omega) (by omega) he10)<|QC hc10 rfl<|Qa rfl<|zN<|Q9 1 rfl rfl ?_
  refine Qm rfl<|zv rfl (λw hw=>zq36 r (M.nth (M.taken r s player) k) (ok_ hw))<|Qm rfl<|Qd rfl rfl<|JL.nil ?_
  refine zi (λh11 h11'=>?_) λh11 h11'=>?_
  ·have hS2:(g + M.getI s.pits (M.nth (M.taken r s player) k)) + M.gone r s player ((M.taken r s player).drop (k + 1))=M.gone r s player (M.taken r s player):=by rw[if_neg (by simpa using h11)] at hS1;omega
   refine Js.region<|Qm rfl<|Qf fh rfl<|Q0 0 rfl rfl rfl<|Qm rfl<|Qq (a0a el_26 rfl rfl (by omega) (by omega) rfl)<|Qw (a0c ty_2.h rfl (Mem.pub (a1g (i:=M.nth (M.taken r s player) k) (Ty.mono _ h1 (x6.vis.trans x8.vis)) (by omega))))<|Qp rfl rfl<|Qa rfl<|JL.nil<|Js.blockEnd<|Js.region<|Qp rfl rfl<|Qm rfl ?_
   refine JL.nil ?_
   exact zag ⟨k + 1,g + (M.getI s.pits (M.nth (M.taken r s player) k)),rfl,rfl,by exact hS2,zt,zt,zt,rfl⟩ x8
  have hS2:g + M.gone r s player ((M.taken r s player).drop (k + 1))=M.gone r s player (M.taken r s player):=by rw[if_pos (by simpa using h11)] at hS1;omega
  refine Js.skip<|Js.blockEnd<|Js.region<|Qp rfl rfl<|Qm rfl<|JL.nil ?_
  exact zag ⟨k + 1,g,rfl,rfl,by exact hS2,zt,zt,zt,rfl⟩ x8
 have hg:g=M.gone r s player (M.taken r s player):=by rw[<- hS,List.drop_eq_nil_of_le (by omega),M.b8z];omega
 refine zx ?_
 refine zS<|Qm rfl<|Qg rfl rfl<|Qm rfl<|zg (Gd.t1 rfl rfl rfl) (λhc=>a0e rfl)<|zg (Gd.t1 rfl rfl rfl) (λhc=>a0e rfl)<|zg (Gd.t1 rfl rfl rfl) (λhc=>p_eql (gh hc rfl) (gh hc rfl))<|Qq (a0d rfl rfl rfl)<|Qa rfl<|JL.nil ?_
 refine zR (x6.trans x8) ?_
 subst hg;simp[outV,M.slams]
theorem zq148(r:M.Rul){v_r:Value}(s:M.Sw){v_s:Value}(player:Int){w:World}(h_r:(Ty.agg (cRules r)).ok w v_r)(h_s:(Ty.agg (cSown s)).ok w v_s)(r0:2<=r.pits:=by exact om_)(r1:r.pits<=8:=by exact om_)(r2:player=0\/player=1:=by exact om_)(r3:M.Good r s.pits s.stores 0:=by exact om_)(r4 : -1<=s.last:=by exact om_)(r5:s.last < 2 * r.pits:=by exact om_):Ret Tryz.prog 91 [v_r,v_s,.int .i64 player] w (Ty.ints 2 (M.captured r s player)):=by
 revert v_r;apply opn
 revert v_s;apply opn
 intro A1 c1 h1 bl1 bh1 A2 c2 h2 bl2 bh2
 refine enter @Tryz.func91 @Tryz.ntmps91 rfl rfl ?_
 refine zent ?_
 refine zS<|zb rfl λb3=>zb rfl λb4=>Qa rfl<|zJ<|zS<|Qf fh rfl<|Q0 1 rfl rfl rfl<|Qe rfl rfl<|Qm rfl<|zgq (Gd.t1 rfl rfl rfl) (λhc=>L9 1 rfl rfl)<|zgq (Gd.t1 rfl rfl rfl) (λhc=>L9 0 rfl rfl)<|zg (Gd.t1 rfl rfl rfl) (λhc=>a0e rfl)<|zgv (Gd.t1 rfl rfl rfl) (λhc=>(a1o (gh hc rfl) (gh hc rfl) (gh hc rfl))) (λhc=>(λw hw=>zq83 r s player (ok_ hw) (ok_ hw) (r0:=(oh_ hc)) (r1:=(oh_ hc)) (r2:=(oh_ hc)) (r3:=r3) (r4:=(oh_ hc)) (r5:=(oh_ hc)))) ?_
 refine Qq (a0d rfl rfl rfl)<|JL.nil ?_
 refine zi (λh5 h5'=>?_) λh5 h5'=>?_
 ·have hR:M.captured r s player=[]:=by unfold M.captured;rw[if_pos (by simpa using h5)]
  have hq0:[]=M.captured r s player:=by rw[hR]
  refine zS<|zbs λb6=>?_
  refine Qa rfl<|JL.nil ?_
  exact zro (Up.refl _ _)
 have hR:M.captured r s player=M.taken r s player:=by unfold M.captured;rw[if_neg (by simpa using h5)]
 refine Js.skip<|zS<|Q9 1 rfl rfl ?_
 refine Q9 0 rfl rfl ?_
 refine Qm rfl<|zcs rfl (λw hw=>zq82 r s player (ok_ hw) (ok_ hw) (r3:=r3)) ?_
 intro A8 c8 bl8 bh8
 have hq0:(M.taken r s player)=M.captured r s player:=by rw[hR]
 refine Qa rfl<|JL.nil ?_
 exact zro (Up.refl _ _)
theorem zq84(r:M.Rul){v_r:Value}(s:M.Sw){v_s:Value}(player:Int){w:World}(h_r:(Ty.agg (cRules r)).ok w v_r)(h_s:(Ty.agg (cSown s)).ok w v_s)(r0:2<=r.pits:=by exact om_)(r1:r.pits<=8:=by exact om_)(r2:player=0\/player=1:=by exact om_)(r3:M.Good r s.pits s.stores 0:=by exact om_)(r4 : -1<=s.last:=by exact om_)(r5:s.last < 2 * r.pits:=by exact om_):Ret Tryz.prog 114 [v_r,v_s,.int .i64 player] w (Ty.agg (cSown (M.take r s player))):=by
 have l1:=r3.lp
 have l2:=r3.ls
 have hlen:=M.a8l (s:=s) (player:=player) r5 r1
 revert v_r;apply opn
 revert v_s;apply opn
 intro A1 c1 h1 bl1 bh1 A2 c2 h2 bl2 bh2
 refine enter @Tryz.func114 @Tryz.ntmps114 rfl rfl ?_
 refine zent ?_
 obtain⟨b3,o3,rfl⟩:=a2i h1 (by omega)
 obtain⟨b4,o4,rfl⟩:=a2i h2 (by omega)
 refine zS<|zb rfl λb5=>zb rfl λb6=>za zeh λb7=>zN<|Q9 2 rfl rfl ?_
 refine Q9 1 rfl rfl ?_
 refine Qm rfl<|zp rfl (λw hw=>zq148 r s player (ok_ hw) (ok_ hw) (r3:=r3)) ?_
 intro u8 x8 A9 c9 h9 bl9 bh9
 refine Qa rfl<|zJ ?_
 refine zdr [7,9] ?_
 refine jF 0 a1c rfl rfl ?_
 refine jB 1 1 ty_26 rfl rfl rfl rfl ?_
 refine jF 3 a2m rfl rfl ?_
 refine jB 4 1 ty_26 rfl rfl rfl rfl ?_
 refine y1 2 ?_
 refine ycs rfl rfl (λw hw=>zq16 s.pits (ok_ hw)) ?_
 intro A10 c10 bl10 bh10
 refine jF 6 a1c rfl rfl ?_
 refine y1 5 ?_
 refine ycs rfl rfl (λw hw=>zq16 s.stores (ok_ hw)) ?_
 intro A11 c11 bl11 bh11
 refine y1 7 ?_
 refine yst rfl rfl rfl ?_
 refine jF 8 a2m rfl rfl ?_
 refine y1 9 ?_
 refine yst rfl rfl rfl ?_
 refine yd ?_
 refine Js.fact (a0s (i:=0) rfl (by omega)) (λhf12=>?_)
 obtain⟨b12,rfl⟩:=hf12
 refine Js.fact (a0s (i:=1) rfl (by omega)) (λhf13=>?_)
 obtain⟨b13,rfl⟩:=hf13
 refine Js.seq<|zS<|Qm rfl<|Qz rfl<|Qm rfl<|JL.nil<|Js.block ?_
 refine zl [2,4,6,22,23] (λF U l os u m=>∃ (k:Nat) (ps ss:List Int),l=F [(24,.int .i64 (k:Int))]/\os=U [some (rowO 2 1 (.slice (some ⟨b12,0,none⟩) s.stores.length c11) s.stores.length (ints_ ss) []),some (rowO 2 1 (.slice (some ⟨b13,0,none⟩) s.pits.length c10) s.pits.length (ints_ ps) [])]/\(M.takeL player ((M.captured r s player).drop k) ps ss=M.takeL player (M.captured r s player) s.pits s.stores)/\(k<=(M.captured r s player).length)/\(M.Good r ps ss 0)/\m=(M.captured r s player).length - k) ⟨0,s.pits,s.stores,rfl,rfl,by rfl,zt,by exact r3,rfl⟩ ?_
 rintro _ _ u14 _ ⟨k,ps,ss,rfl,rfl,hS,hk,hG,rfl⟩ x14
 refine zn ?_
 have l3:=hG.lp
 have l4:=hG.ls
 refine zS<|Ql rfl rfl<|zJ ?_
 refine zi (λh15 h15'=>?_) λh15 h15'=>?_
 ·have hk2:k < (M.captured r s player).length:=by have:=h15;simp at this;omega
  have hx:=M.a3w (r:=r) (s:=s) (player:=player) r5 (M.a2w hk2)
  have hvx:=hG.pit (M.nth (M.captured r s player) k)
  have hvs:=hG.store player
  obtain⟨b16,o16,he16,hc16⟩:=a0l (Ty.mono _ h9 x14.vis) (i:=k) (by omega)
  refine Js.skip<|Js.seq<|Js.block<|zS<|Qq (a0a el_26 rfl rfl (by omega) (by omega) he16)<|QC hc16 rfl<|Qa rfl<|zJ ?_
  refine zdr [12] ?_
  refine jF 0 a2m rfl rfl ?_
  refine jB 1 3 ty_26 rfl rfl rfl rfl ?_
  refine jM 2 rfl rfl ?_
  refine jI 3 el_26 rfl rfl rfl rfl ?_
  refine JH.q 4 rfl (a0c ty_2.h rfl (Mem.row (i:=0) rfl (a1b (i:=player) (by omega)))) ?_
  refine jF 5 a1c rfl rfl ?_
  refine jB 6 3 ty_26 rfl rfl rfl rfl ?_
  refine jM 7 rfl rfl ?_
  refine jI 8 el_26 rfl rfl rfl rfl ?_
  refine JH.q 9 rfl (a0c ty_2.h rfl (Mem.row (i:=1) rfl (a1b (i:=M.nth (M.captured r s player) k) (by omega)))) ?_
  refine JH.p 10 rfl (p_add rfl rfl (IntWalk.i64_in _ (by omega))) ?_
  refine jI 11 el_26 rfl rfl rfl rfl ?_
  refine y1 12 ?_
  refine JHo.s rfl (a0i (i:=0) (xs':=ints_ (M.setI ss player ((M.getI ss player) + (M.getI ps (M.nth (M.captured r s player) k))))) ty_2.h rfl rfl rfl rfl rfl rfl (a0q (i:=player.toNat) (by omega)) (a0m (i:=player.toNat) (by omega))) (.inr rfl) ?_
  rintro _ _ _ ⟨rfl,rfl⟩ _
  refine znh ?_
  refine yd ?_
  refine Js.region<|Qf fh rfl<|Q0 3 rfl rfl rfl<|Qm rfl<|Qq (a0a el_26 rfl rfl (by omega) (by omega) rfl) ?_
  refine JL.s (a0i (i:=1) (xs':=ints_ (M.setI ps (M.nth (M.captured r s player) k) 0)) ty_2.h rfl rfl rfl rfl rfl rfl (a0q (i:=(M.nth (M.captured r s player) k).toNat) (by omega)) (a0m (i:=(M.nth (M.captured r s player) k).toNat) (by omega))) ?_
  rintro _ _ _ ⟨rfl,rfl⟩ _
  refine znl ?_
  refine JL.nil<|Js.blockEnd<|Js.region<|Qp rfl rfl<|Qm rfl<|JL.nil ?_
  exact zag ⟨k + 1,M.setI ps (M.nth (M.captured r s player) k) 0,M.setI ss player ((M.getI ss player) + (M.getI ps (M.nth (M.captured r s player) k))),rfl,rfl,by rw[M.a3r hk2,M.takeL] at hS;exact hS,zt,by exact hG.takeStep hx.1 hx.2 (by omega) (by omega),rfl⟩ x14
 rw[List.drop_eq_nil_of_le (by omega),M.take_eq r5 (by omega) (by omega)] at hS
 injection hS with hT1 hT2
 refine zx ?_
 have hq0:ps=(M.take r s player).pits:=by first|exact hT1|exact hT2|rfl
 have hq1:ss=(M.take r s player).stores:=by first|exact hT1|exact hT2|rfl
 have hq2:s.last=(M.take r s player).last:=by first|exact hT1|exact hT2|rfl
 have hq3:s.laps=(M.take r s player).laps:=by first|exact hT1|exact hT2|rfl
 refine zS<|Q9 3 rfl rfl ?_
 refine zw 2 rfl rfl rfl ?_
 refine JL.nil ?_
 exact zro (x8.trans x14)
theorem zq149(r:M.Rul){v_r:Value}(p:M.Pos){v_p:Value}{w:World}(h_r:(Ty.agg (cRules r)).ok w v_r)(h_p:(Ty.agg (cPosition p)).ok w v_p)(r0:M.okP r p=true:=by exact om_):RetV Tryz.prog 115 [v_r,v_p] w (.bool (M.mustFeed r p)):=by
 obtain⟨g1,g2,g3,g4,g5,g6,g7⟩:=M.a0y r0
 revert v_r;apply opn
 revert v_p;apply opn
 intro A1 c1 h1 bl1 bh1 A2 c2 h2 bl2 bh2
 refine enter @Tryz.func115 @Tryz.ntmps115 rfl rfl ?_
 refine zent ?_
 refine zS<|zb rfl λb3=>zb rfl λb4=>Qa rfl<|zN<|Qf fh rfl<|Q0 1 rfl rfl rfl<|Qm rfl<|zgq (Gd.t1 rfl rfl rfl) (λhc=>L9 1 rfl rfl)<|zg (Gd.t1 rfl rfl rfl) (λhc=>a0b a1a.h rfl)<|zgq (Gd.t1 rfl rfl rfl) (λhc=>a0c ty_26.h (gh hc rfl) (Mem.box (i:=0) rfl rfl))<|zg (Gd.t1 rfl rfl rfl) (λhc=>a0b a0v.h rfl)<|zgq (Gd.t1 rfl rfl rfl) (λhc=>a0c ty_2.h (gh hc rfl) (Mem.box (i:=0) rfl rfl))<|zg (Gd.t1 rfl rfl rfl) (λhc=>p_sub rfl (gh hc rfl) (IntWalk.i64_in _ (by omega))) ?_
 refine zgv (Gd.t1 rfl rfl rfl) (λhc=>(a1o (gh hc rfl) (gh hc rfl) (gh hc rfl))) (λhc=>(λw hw=>zq37 r p.pits (1 - p.player) (ok_ hw) (ok_ hw) (r4:=g5))) ?_
 refine zg (Gd.t1 rfl rfl rfl) (λhc=>p_eql (gh hc rfl) rfl)<|Qq (a0d rfl rfl rfl)<|Qa rfl<|JL.nil ?_
 refine zR (Up.refl _ _) ?_
 simp[outV,M.mustFeed]
theorem zq85(r:M.Rul){v_r:Value}(p:M.Pos){v_p:Value}(move:Int){w:World}(h_r:(Ty.agg (cRules r)).ok w v_r)(h_p:(Ty.agg (cPosition p)).ok w v_p)(r0:p.pits.length<=4194304:=by exact om_)(r1:p.stores.length<=4194304:=by exact om_):Ret Tryz.prog 59 [v_r,v_p,.int .i64 move] w (Ty.tup [Ty.agg (cSown ((M.done r p move).1)),Ty.int ((M.done r p move).2)]):=by
 revert v_r;apply opn
 revert v_p;apply opn
 intro A1 c1 h1 bl1 bh1 A2 c2 h2 bl2 bh2
 refine enter @Tryz.func59 @Tryz.ntmps59 rfl rfl ?_
 refine zent ?_
 refine zS<|zb rfl λb3=>zb rfl λb4=>za zeh λb5=>Qa rfl<|zN<|Q9 2 rfl rfl ?_
 refine Q9 1 rfl rfl ?_
 refine Qm rfl<|zp rfl (λw hw=>zq147 r p move (ok_ hw) (ok_ hw)) ?_
 intro u6 x6 v7 h7
 refine Qm rfl<|Qx rfl rfl<|Qx rfl rfl<|Qa rfl<|Qa rfl<|zJ<|zS<|Qm rfl<|Qd rfl rfl<|JL.nil ?_
 refine zi (λh8 h8'=>?_) λh8 h8'=>?_
 ·have hz:¬ (M.sowMove r p move).1=0:=by simpa using h8
  have hD:M.done r p move=(M.Sw.zero,(M.sowMove r p move).1):=by unfold M.done;rw[if_pos hz]
  have hq0:[]=((M.done r p move).1).pits:=rp_ hD
  have hq1:[]=((M.done r p move).1).stores:=rp_ hD
  have hq2:0=((M.done r p move).1).last:=rp_ hD
  have hq3:0=((M.done r p move).1).laps:=rp_ hD
  have hq4:((M.sowMove r p move).1)=(M.done r p move).2:=rp_ hD
  refine zS<|Qb ?_
  refine Qm rfl<|zw 0 rfl rfl rfl ?_
  refine Qa rfl<|JL.nil ?_
  exact zro x6
 have hz:(M.sowMove r p move).1=0:=by simpa using h8
 obtain⟨hok,m0,m1,hG,q0,q1,hsum⟩:=M.a4d hz
 obtain⟨g1,g2,g3,g4,g5,g6,g7⟩:=M.a0y hok
 have hG2:=(M.a5o g7 hG q1).1
 have hao:=M.Good.ok hG2
 have hl2:=hG2.lp
 have ⟨g8,g9⟩:p.pits.length<=4194304/\p.stores.length<=4194304:=by omega
 refine Js.skip<|Js.seq ?_
 refine zk [3,4,6] (λF U l os u=>∃ (b9 o9 b11:Nat) (A10_0:Option Addr) (c10_0:Nat) (A10_1:Option Addr) (c10_1:Nat) (f10:List Nat) (A9_10:Option Addr) (c9_10:Nat) (A9_11:Option Addr) (c9_11:Nat) (A9_14:Option Addr) (c9_14:Nat),l=F [(8,.pointer (some ⟨b9,o9,none⟩)),(10,.pointer (some ⟨b11,0,none⟩))]/\os=[boxO b11 [.slice A10_0 (((M.take r ((M.sowMove r p move).2.1) p.player).pits).length) c10_0,.slice A10_1 (((M.take r ((M.sowMove r p move).2.1) p.player).stores).length) c10_1,.int .i64 ((M.take r ((M.sowMove r p move).2.1) p.player).last),.int .i64 ((M.take r ((M.sowMove r p move).2.1) p.player).laps)] 75,ownC (cSown (M.take r ((M.sowMove r p move).2.1) p.player)) [.slice A10_0 (((M.take r ((M.sowMove r p move).2.1) p.player).pits).length) c10_0,.slice A10_1 (((M.take r ((M.sowMove r p move).2.1) p.player).stores).length) c10_1,.int .i64 ((M.take r ((M.sowMove r p move).2.1) p.player).last),.int .i64 ((M.take r ((M.sowMove r p move).2.1) p.player).laps)] f10]++U []/\(RowAt u b9 o9 [.int .i64 r.pits,.int .i64 r.seeds,.bool r.stores,.bool r.skip,.bool r.relay,.bool r.feed,.bool r.again,.int .i64 r.capture,.int .i64 r.slam,.int .i64 p.player,.slice A9_10 ((((M.sowMove r p move).2.1).pits).length) c9_10,.slice A9_11 ((((M.sowMove r p move).2.1).stores).length) c9_11,.int .i64 (((M.sowMove r p move).2.1).last),.int .i64 (((M.sowMove r p move).2.1).laps),.slice A9_14 (((M.sowMove r p move).2.2).length) c9_14])/\((((M.sowMove r p move).2.1).pits).length<=c9_10)/\(c9_10<=9223372036854775807)/\((Ty.ints 2 (((M.sowMove r p move).2.1).pits)).ok u (.slice A9_10 ((((M.sowMove r p move).2.1).pits).length) c9_10))/\((((M.sowMove r p move).2.1).stores).length<=c9_11)/\(c9_11<=9223372036854775807)/\((Ty.ints 2 (((M.sowMove r p move).2.1).stores)).ok u (.slice A9_11 ((((M.sowMove r p move).2.1).stores).length) c9_11))/\(((M.sowMove r p move).2.2).length<=c9_14)/\(c9_14<=9223372036854775807)/\((Ty.ints 2 ((M.sowMove r p move).2.2)).ok u (.slice A9_14 (((M.sowMove r p move).2.2).length) c9_14))/\(((M.take r ((M.sowMove r p move).2.1) p.player).pits).length<=c10_0)/\(c10_0<=9223372036854775807)/\(((M.take r ((M.sowMove r p move).2.1) p.player).stores).length<=c10_1)/\(c10_1<=9223372036854775807)) ?_ ?_
 ·refine zdr [9] ?_
  refine JH.q 0 rfl (L9 2 rfl rfl) ?_
  refine jM 1 rfl rfl ?_
  obtain⟨b15,o15,A15_10,c15_10,A15_11,c15_11,A15_14,c15_14,rfl,hr15,h15_10,h15_11,h15_14,bl15_10,bh15_10,bl15_11,bh15_11,bl15_14,bh15_14⟩:=c0e (box_ref (opt_yes h7 (by exact decide_eq_true hz)))
  refine jN 2 rfl rfl ?_
  refine jF 3 a9n rfl rfl ?_
  refine JH.w 4 rfl (λos' u' hv=>LS 10 (hr15.vis hv) rfl) ?_
  refine jF 5 a0v rfl rfl ?_
  refine jB 6 1 ty_2 rfl rfl rfl rfl ?_
  refine y2 7 8 ?_ ?_
  ·refine ycs rfl rfl (λw hw=>zq84 r ((M.sowMove r p move).2.1) p.player (ok_ hw) (ok_ hw) (r3:=hG)) ?_
   intro A16_0 c16_0 bl16_0 bh16_0 A16_1 c16_1 bl16_1 bh16_1 f16
   refine y1 8 ?_
   refine ya rfl λb17=>?_
   refine y1 9 ?_
   refine yst rfl rfl rfl ?_
   refine yd ?_
   exact zm ⟨_,_,_,_,_,_,_,_,_,_,_,_,_,_,rfl,rfl,hr15,zt,zt,h15_10,zt,zt,h15_11,zt,zt,h15_14,zt,zt,zt,zt⟩ (Up.refl _ _)
  refine ya rfl λb18=>?_
  refine y1 7 ?_
  refine ycs rfl rfl (λw hw=>zq84 r ((M.sowMove r p move).2.1) p.player (ok_ hw) (ok_ hw) (r3:=hG)) ?_
  intro A19_0 c19_0 bl19_0 bh19_0 A19_1 c19_1 bl19_1 bh19_1 f19
  refine y1 9 ?_
  refine yst rfl rfl rfl ?_
  refine yd ?_
  refine zh [1,0,0,0,0] ?_
  exact zm ⟨_,_,_,_,_,_,_,_,_,_,_,_,_,_,rfl,rfl,hr15,zt,zt,h15_10,zt,zt,h15_11,zt,zt,h15_14,zt,zt,zt,zt⟩ (Up.refl _ _)
 rintro _ _ u14 ⟨b9,o9,b11,A10_0,c10_0,A10_1,c10_1,f10,A9_10,c9_10,A9_11,c9_11,A9_14,c9_14,rfl,rfl,f14_0,f14_1,f14_2,f14_3,f14_4,f14_5,f14_6,f14_7,f14_8,f14_9,f14_10,f14_11,f14_12,f14_13⟩ x14
 refine zn ?_
 refine Js.seq<|Js.seq ?_
 refine zdr [] ?_
 refine jF 0 a5t rfl rfl ?_
 refine jB 1 4 ty_2 rfl rfl rfl rfl ?_
 refine JH.p 2 rfl (p_eql rfl rfl) ?_
 refine jM 3 rfl rfl ?_
 refine JH.qg 4 rfl (Gd.t1 rfl rfl rfl) (λhc=>L9 4 rfl rfl) ?_
 refine JH.pg 5 rfl (Gd.t1 rfl rfl rfl) (λhc=>a0e rfl) ?_
 refine JH.pg 6 rfl (Gd.t1 rfl rfl rfl) (λhc=>a0n (gvt rfl hc)) ?_
 refine JH.pg 7 rfl (Gd.t1 rfl rfl rfl) (λhc=>a0b a9n.h (gvt rfl hc)) ?_
 refine JH.wg 8 rfl (Gd.t1 rfl rfl rfl) (λhc os' u' hv=>LS 10 (f14_0.vis hv) (gvt rfl hc)) ?_
 refine JH.pg 9 rfl (Gd.t1 rfl rfl rfl) (λhc=>a0b a0v.h rfl) ?_
 refine JH.qg 10 rfl (Gd.t1 rfl rfl rfl) (λhc=>a0c ty_2.h (gvt rfl hc) (Mem.box (i:=3) rfl rfl)) ?_
 refine y1 11 ?_
 refine JHo.ge rfl (Gd.t1 rfl rfl rfl) (λhc=>a2h fn_46.h (a1o (gvt rfl hc) (gvt rfl hc) (gvt rfl hc)) (λw hw=>zq83 r ((M.sowMove r p move).2.1) p.player (ok_ hw) (ok_ hw) (r0:=(oh_ hc)) (r1:=(oh_ hc)) (r2:=(oh_ hc)) (r3:=hG) (r4:=(oh_ hc)) (r5:=(oh_ hc)))) ?_
 refine JH.p 12 rfl (a0d rfl rfl rfl) ?_
 refine jM 13 rfl rfl ?_
 refine JH.qg 14 rfl (Gd.f1 rfl rfl rfl) (λhc=>L9 4 rfl rfl) ?_
 refine JH.qg 15 rfl (Gd.f1 rfl rfl rfl) (λhc=>L9 3 rfl rfl) ?_
 refine y1 16 ?_
 refine JHo.ge rfl (Gd.f1 rfl rfl rfl) (λhc=>a2h fn_115.h (a2d (gvt rfl hc) (gvt rfl hc)) (λw hw=>zq149 r p (ok_ hw) (ok_ hw) (r0:=hok))) ?_
 refine JH.pg 17 rfl (Gd.f1 rfl rfl rfl) (λhc=>a0e (gvt rfl hc)) ?_
 refine JH.qg 18 rfl (Gd.t2 rfl rfl rfl) (λhc=>L9 4 rfl rfl) ?_
 refine JH.pg 19 rfl (Gd.t2 rfl rfl rfl) (λhc=>a0b a1c.h rfl) ?_
 refine JH.qg 20 rfl (Gd.t2 rfl rfl rfl) (λhc=>a0c ty_26.h (gvt rfl hc) (Mem.box (i:=0) rfl rfl)) ?_
 refine JH.pg 21 rfl (Gd.t2 rfl rfl rfl) (λhc=>a0b a0v.h rfl) ?_
 refine JH.qg 22 rfl (Gd.t2 rfl rfl rfl) (λhc=>a0c ty_2.h (gvt rfl hc) (Mem.box (i:=3) rfl rfl)) ?_
 refine JH.pg 23 rfl (Gd.t2 rfl rfl rfl) (λhc=>p_sub rfl (gvt rfl hc) (IntWalk.i64_in _ (by have hc9:=hc;(try simp only[Bool.and_eq_true,Bool.not_eq_true',Bool.and_eq_false_iff,decide_eq_false_iff_not] at hc9);omega))) ?_
 refine y1 24 ?_
 refine JHo.ge rfl (Gd.t2 rfl rfl rfl) (λhc=>a2h fn_104.h (a1o (gvt rfl hc) (gvt rfl hc) (gvt rfl hc)) (λw hw=>zq37 r ((M.take r ((M.sowMove r p move).2.1) p.player).pits) (1 - p.player) (ok_ hw) (ok_ hw) (r0:=(by have hc9:=hc;(try simp only[Bool.and_eq_true,Bool.not_eq_true',Bool.and_eq_false_iff,decide_eq_false_iff_not] at hc9);omega)) (r1:=(by have hc9:=hc;(try simp only[Bool.and_eq_true,Bool.not_eq_true',Bool.and_eq_false_iff,decide_eq_false_iff_not] at hc9);omega)) (r2:=(by have hc9:=hc;(try simp only[Bool.and_eq_true,Bool.not_eq_true',Bool.and_eq_false_iff,decide_eq_false_iff_not] at hc9);omega)) (r3:=(by have hc9:=hc;(try simp only[Bool.and_eq_true,Bool.not_eq_true',Bool.and_eq_false_iff,decide_eq_false_iff_not] at hc9);omega)) (r4:=hao.1))) ?_
 refine JH.pg 25 rfl (Gd.t2 rfl rfl rfl) (λhc=>p_eql (gvt rfl hc) rfl) ?_
 refine JH.pg 26 rfl (Gd.f1 rfl rfl rfl) (λhc=>a0d (gvt rfl hc) (gvl rfl hc) rfl) ?_
 refine JH.p 27 rfl (a0j rfl rfl rfl) ?_
 refine yd ?_
 refine zi (λh20 h20'=>?_) λh20 h20'=>?_
 ·have hD:M.done r p move=(M.Sw.zero,9):=by unfold M.done;rw[if_neg (by simpa using hz),if_pos (by simpa using h20)]
  have hq0:[]=((M.done r p move).1).pits:=rp_ hD
  have hq1:[]=((M.done r p move).1).stores:=rp_ hD
  have hq2:0=((M.done r p move).1).last:=rp_ hD
  have hq3:0=((M.done r p move).1).laps:=rp_ hD
  have hq4:9=(M.done r p move).2:=rp_ hD
  refine zS<|Qb ?_
  refine zw 2 rfl rfl rfl ?_
  refine Qa rfl<|JL.nil ?_
  exact zro (x6.trans x14)
 have hD:M.done r p move=(M.take r (M.sowMove r p move).2.1 p.player,0):=by unfold M.done;rw[if_neg (by simpa using hz),if_neg (by simpa using h20)]
 have hq0:(M.take r ((M.sowMove r p move).2.1) p.player)=(M.done r p move).1:=rp_ hD
 have hq1:0=(M.done r p move).2:=rp_ hD
 refine Js.skip<|zS<|Q9 0 rfl rfl ?_
 refine zw 2 rfl rfl rfl ?_
 refine Qa rfl<|JL.nil ?_
 exact zro (x6.trans x14)
theorem zq150(r:M.Rul){v_r:Value}(p:M.Pos){v_p:Value}(move:Int){w:World}(h_r:(Ty.agg (cRules r)).ok w v_r)(h_p:(Ty.agg (cPosition p)).ok w v_p)(r0:p.pits.length<=4194304:=by exact om_)(r1:p.stores.length<=4194304:=by exact om_):RetV Tryz.prog 23 [v_r,v_p,.int .i64 move] w (.int .i64 ((M.done r p move).2)):=by
 revert v_r;apply opn
 revert v_p;apply opn
 intro A1 c1 h1 bl1 bh1 A2 c2 h2 bl2 bh2
 refine enter @Tryz.func23 @Tryz.ntmps23 rfl rfl ?_
 refine zent ?_
 refine zS<|zb rfl λb3=>zb rfl λb4=>Qa rfl<|zN<|Q9 1 rfl rfl ?_
 refine Q9 0 rfl rfl ?_
 refine Qm rfl<|zp rfl (λw hw=>zq85 r p move (ok_ hw) (ok_ hw)) ?_
 intro u5 x5 A6 c6 h6 bl6 bh6 A7 c7 h7 bl7 bh7
 refine Qm rfl<|Qx rfl rfl<|Qx rfl rfl<|za zeh λb8=>zw 0 rfl rfl rfl ?_
 refine Qa rfl<|zN<|Qm rfl<|Qa rfl<|JL.nil ?_
 exact zr x5
theorem zq151(r:M.Rul){v_r:Value}(p:M.Pos){v_p:Value}{w:World}(h_r:(Ty.agg (cRules r)).ok w v_r)(h_p:(Ty.agg (cPosition p)).ok w v_p)(r0:M.okP r p=true:=by exact om_):Ret Tryz.prog 140 [v_r,v_p] w (Ty.sl 109 6 (M.results r p).length (lResult (M.results r p))):=by
 obtain⟨g1,g2,g3,g4,g5,g6,g7⟩:=M.a0y r0
 revert v_r;apply opn
 revert v_p;apply opn
 intro A1 c1 h1 bl1 bh1 A2 c2 h2 bl2 bh2
 refine enter @Tryz.func140 @Tryz.ntmps140 rfl rfl ?_
 refine zent ?_
 obtain⟨b3,o3,rfl⟩:=a2i h2 (by omega)
 refine zS<|zb rfl λb4=>zb rfl λb5=>Qa rfl<|zN<|zbs λb6=>?_
 refine Qa rfl<|zJ<|zS<|Qf fh rfl<|Q0 2 rfl rfl rfl<|Qm rfl<|JL.nil<|Js.block ?_
 refine Js.vals (Ts:=lResult []) (vs:=[]) (λw=>rfl) ?_
 refine zl [2,3,13] (λF U l os u m=>∃ (k:Nat) (acc:List M.Res) (A8_5:Option Addr) (c8_5:Nat) (g8_5:List Nat) (vs8_5:List Value) (fl8_5:List Nat),l=F [(5,.slice A8_5 acc.length c8_5),(14,.int .i64 (k:Int))]/\os=U [some (ownC (lResult acc) vs8_5 fl8_5),some (rowO 109 6 (.slice A8_5 acc.length c8_5) acc.length vs8_5 g8_5)]/\(acc=M.resultsTo r p k)/\(k<=r.pits)/\(acc.length<=c8_5)/\(c8_5<=9223372036854775807)/\m=(r.pits - k).toNat) ⟨0,[],_,_,_,_,_,rfl,rfl,by rfl,zt,zu,zu,rfl⟩ ?_
 rintro _ _ u8 _ ⟨k,acc,A8_5,c8_5,g8_5,vs8_5,fl8_5,rfl,rfl,hacc,hk,f8_2,f8_3,rfl⟩ x8
 refine zn ?_
 have hlen:=M.a3f (r:=r) (p:=p) k
 have hlacc:acc.length<=k:=by rw[hacc];exact hlen
 refine zS<|Ql rfl rfl<|zJ ?_
 refine zi (λh9 h9'=>?_) λh9 h9'=>?_
 ·refine Js.skip<|Js.seq<|Js.block<|zS<|Qm rfl<|Qa rfl<|zN<|Q9 3 rfl rfl ?_
  refine Q9 2 rfl rfl ?_
  refine Qm rfl<|zc rfl (λw hw=>zq85 r p (k:Int) (ok_ hw) (ok_ hw)) ?_
  intro A12 c12 bl12 bh12 A13 c13 bl13 bh13
  refine Qm rfl<|Qx rfl rfl<|Qx rfl rfl<|za zeh λb14=>zw 0 rfl rfl rfl ?_
  refine Qa rfl<|zJ<|zS<|Qm rfl<|Qd rfl rfl<|JL.nil ?_
  refine zi (λh15 h15'=>?_) λh15 h15'=>?_
  ·have hacc2:=(M.b4w (r:=r) (p:=p) (k:=k) (by simpa using h15)).symm
   refine zx ?_
   refine Js.region<|Qp rfl rfl<|Qm rfl<|JL.nil ?_
   refine zd [3,3,3,3] rfl λu16 x16=>?_
   exact zag ⟨k + 1,acc,_,_,_,_,_,rfl,rfl,by rw[hacc];exact hacc2,zt,zu,zu,rfl⟩ (x8.trans x16)
  have hz:(M.done r p k).2=0:=by simpa using h15
  obtain⟨_,_,_,hG⟩:=M.b4b hz
  have l3:=hG.ls
  have hs1:=hG.store p.player
  have hs2:=(M.Good.of_ok r0).store p.player
  refine Js.fact (a0s (i:=1) rfl (by omega)) (λhf17=>?_)
  obtain⟨b17,rfl⟩:=hf17
  refine Js.skip<|zS<|Qf fh rfl<|Q0 6 rfl rfl rfl<|Qm rfl<|zg (Gd.t1 rfl rfl rfl) (λhc=>a0b a3t.h rfl)<|zgq (Gd.t1 rfl rfl rfl) (λhc=>a0c ty_2.h (gh hc rfl) (Mem.box (i:=0) rfl rfl))<|zg (Gd.t1 rfl rfl rfl) (λhc=>p_eql (gh hc rfl) rfl)<|Qq (a0d rfl rfl rfl)<|Qa rfl<|zN<|Qf fh rfl<|Q0 0 rfl rfl rfl<|Qf fh rfl ?_
  refine Q0 0 rfl rfl rfl<|Qf fh rfl<|Q0 5 rfl rfl rfl<|Qs rfl rfl<|Qb ?_
  refine za zeh λb18=>zw 0 rfl rfl rfl ?_
  refine zJ<|zS<|Qm rfl<|JL.nil ?_
  refine zi (λh19 h19'=>?_) λh19 h19'=>?_
  ·have hacc2:=(M.a7f hz).symm
   unfold M.resOf at hacc2
   rw[if_pos h19] at hacc2
   refine Js.region<|Qf fh rfl<|Q0 6 rfl rfl rfl<|Qf fh rfl<|zw 0 rfl rfl rfl ?_
   refine JL.nil ?_
   refine zdr [19] ?_
   refine jM 0 rfl rfl ?_
   refine jM 1 rfl rfl ?_
   refine jF 2 a2m rfl rfl ?_
   refine jB 3 1 ty_26 rfl rfl rfl rfl ?_
   refine jF 4 a0v rfl rfl ?_
   refine jB 5 6 ty_2 rfl rfl rfl rfl ?_
   refine jI 6 el_26 rfl rfl rfl rfl ?_
   refine JH.q 7 rfl (a0c ty_2.h rfl (Mem.row (i:=2) rfl (a1b (i:=p.player) (by omega)))) ?_
   refine jF 8 a0z rfl rfl ?_
   refine jB 9 6 ty_26 rfl rfl rfl rfl ?_
   refine jF 10 a0v rfl rfl ?_
   refine jB 11 6 ty_2 rfl rfl rfl rfl ?_
   refine jI 12 el_26 rfl rfl rfl rfl ?_
   refine JH.w 13 rfl (λos' u' hv=>a0c ty_2.h rfl (Mem.pub (a1g (i:=p.player) (Ty.mono _ h2 (x8.vis.trans hv)) (by omega)))) ?_
   refine JH.p 14 rfl (p_sub rfl rfl (IntWalk.i64_in _ (by omega))) ?_
   refine jM 15 rfl rfl ?_
   refine JH.q 16 rfl (L9 0 rfl rfl) ?_
   refine JH.p 17 rfl (q_bld) ?_
   refine y1 18 ?_
   refine ybs rfl λb22=>?_
   refine y1 19 ?_
   refine JHo.e rfl (a0g (i:=6) (n':=(acc++[(M.Res.mk (k:Int) ((M.getI (((M.done r p (k:Int)).1).stores) p.player) - (M.getI p.stores p.player)) (r.again && (decide (((M.done r p (k:Int)).1).last=(-1)))) (M.Pos.mk (((M.done r p (k:Int)).1).pits) (((M.done r p (k:Int)).1).stores) p.player))]).length) (vs':=vs8_5++[.int .i64 (k:Int),.int .i64 ((M.getI (((M.done r p (k:Int)).1).stores) p.player) - (M.getI p.stores p.player)),.bool (r.again && (decide (((M.done r p (k:Int)).1).last=(-1)))),.slice A12 ((((M.done r p (k:Int)).1).pits).length) c12,.slice (some ⟨b17,0,none⟩) ((((M.done r p (k:Int)).1).stores).length) c13,.int .i64 p.player]) a3a rfl rfl rfl rfl (a0k (i:=0) a2p rfl rfl) (by omega) (by omega) ln2_ (rfl)) (.inr rfl) ?_
   rintro v24 _ _ ⟨⟨g25,rfl⟩,rfl⟩ _
   refine JH.fact (row_form' (i:=6) rfl) (λhf26=>?_)
   obtain⟨A26,c26,rfl,bl26,bh26⟩:=hf26
   refine znh ?_
   refine jA 20 rfl rfl ?_
   refine yd ?_
   refine Js.pack2 (i:=4) (j:=3) (cResult (M.Res.mk (k:Int) ((M.getI (((M.done r p (k:Int)).1).stores) p.player) - (M.getI p.stores p.player)) (r.again && (decide (((M.done r p (k:Int)).1).last=(-1)))) (M.Pos.mk (((M.done r p (k:Int)).1).pits) (((M.done r p (k:Int)).1).stores) p.player))) [.int .i64 (k:Int),.int .i64 ((M.getI (((M.done r p (k:Int)).1).stores) p.player) - (M.getI p.stores p.player)),.bool (r.again && (decide (((M.done r p (k:Int)).1).last=(-1)))),.slice A12 ((((M.done r p (k:Int)).1).pits).length) c12,.slice (some ⟨b17,0,none⟩) ((((M.done r p (k:Int)).1).stores).length) c13,.int .i64 p.player] rfl rfl (λw h1 h2=>a6f (a3q h1 rfl) (a3q h2 rfl)) (λf27=>?_)
   refine Js.joinL (i:=4) (j:=0) (Vs:=lResult (acc++[(M.Res.mk (k:Int) ((M.getI (((M.done r p (k:Int)).1).stores) p.player) - (M.getI p.stores p.player)) (r.again && (decide (((M.done r p (k:Int)).1).last=(-1)))) (M.Pos.mk (((M.done r p (k:Int)).1).pits) (((M.done r p (k:Int)).1).stores) p.player))])) rfl rfl (a4w _ _) (λf28=>?_)
   refine zn ?_
   refine Js.blockEnd<|Js.region<|Qp rfl rfl<|Qm rfl<|JL.nil ?_
   refine zd [0,3,3,3] rfl λu29 x29=>?_
   exact zag ⟨k + 1,acc++[(M.Res.mk (k:Int) ((M.getI (((M.done r p (k:Int)).1).stores) p.player) - (M.getI p.stores p.player)) (r.again && (decide (((M.done r p (k:Int)).1).last=(-1)))) (M.Pos.mk (((M.done r p (k:Int)).1).pits) (((M.done r p (k:Int)).1).stores) p.player))],_,_,_,_,_,rfl,rfl,by rw[hacc];exact hacc2,zt,zu,zu,rfl⟩ (x8.trans x29)
  have hacc2:=(M.a7f hz).symm
  unfold M.resOf at hacc2
  rw[if_neg (by simpa using h19)] at hacc2
  refine Js.skip ?_
  refine zdr [19] ?_
  refine jM 0 rfl rfl ?_
  refine jM 1 rfl rfl ?_
  refine jF 2 a2m rfl rfl ?_
  refine jB 3 1 ty_26 rfl rfl rfl rfl ?_
  refine jF 4 a0v rfl rfl ?_
  refine jB 5 6 ty_2 rfl rfl rfl rfl ?_
  refine jI 6 el_26 rfl rfl rfl rfl ?_
  refine JH.q 7 rfl (a0c ty_2.h rfl (Mem.row (i:=2) rfl (a1b (i:=p.player) (by omega)))) ?_
  refine jF 8 a0z rfl rfl ?_
  refine jB 9 6 ty_26 rfl rfl rfl rfl ?_
  refine jF 10 a0v rfl rfl ?_
  refine jB 11 6 ty_2 rfl rfl rfl rfl ?_
  refine jI 12 el_26 rfl rfl rfl rfl ?_
  refine JH.w 13 rfl (λos' u' hv=>a0c ty_2.h rfl (Mem.pub (a1g (i:=p.player) (Ty.mono _ h2 (x8.vis.trans hv)) (by omega)))) ?_
  refine JH.p 14 rfl (p_sub rfl rfl (IntWalk.i64_in _ (by omega))) ?_
  refine jM 15 rfl rfl ?_
  refine JH.q 16 rfl (L9 0 rfl rfl) ?_
  refine JH.p 17 rfl (q_bld) ?_
  refine y1 18 ?_
  refine ybs rfl λb32=>?_
  refine y1 19 ?_
  refine JHo.e rfl (a0g (i:=6) (n':=(acc++[(M.Res.mk (k:Int) ((M.getI (((M.done r p (k:Int)).1).stores) p.player) - (M.getI p.stores p.player)) (r.again && (decide (((M.done r p (k:Int)).1).last=(-1)))) (M.Pos.mk (((M.done r p (k:Int)).1).pits) (((M.done r p (k:Int)).1).stores) (1 - p.player)))]).length) (vs':=vs8_5++[.int .i64 (k:Int),.int .i64 ((M.getI (((M.done r p (k:Int)).1).stores) p.player) - (M.getI p.stores p.player)),.bool (r.again && (decide (((M.done r p (k:Int)).1).last=(-1)))),.slice A12 ((((M.done r p (k:Int)).1).pits).length) c12,.slice (some ⟨b17,0,none⟩) ((((M.done r p (k:Int)).1).stores).length) c13,.int .i64 (1 - p.player)]) a3a rfl rfl rfl rfl (a0k (i:=0) a2p rfl rfl) (by omega) (by omega) ln2_ (rfl)) (.inr rfl) ?_
  rintro v34 _ _ ⟨⟨g35,rfl⟩,rfl⟩ _
  refine JH.fact (row_form' (i:=6) rfl) (λhf36=>?_)
  obtain⟨A36,c36,rfl,bl36,bh36⟩:=hf36
  refine znh ?_
  refine jA 20 rfl rfl ?_
  refine yd ?_
  refine Js.pack2 (i:=4) (j:=3) (cResult (M.Res.mk (k:Int) ((M.getI (((M.done r p (k:Int)).1).stores) p.player) - (M.getI p.stores p.player)) (r.again && (decide (((M.done r p (k:Int)).1).last=(-1)))) (M.Pos.mk (((M.done r p (k:Int)).1).pits) (((M.done r p (k:Int)).1).stores) (1 - p.player)))) [.int .i64 (k:Int),.int .i64 ((M.getI (((M.done r p (k:Int)).1).stores) p.player) - (M.getI p.stores p.player)),.bool (r.again && (decide (((M.done r p (k:Int)).1).last=(-1)))),.slice A12 ((((M.done r p (k:Int)).1).pits).length) c12,.slice (some ⟨b17,0,none⟩) ((((M.done r p (k:Int)).1).stores).length) c13,.int .i64 (1 - p.player)] rfl rfl (λw h1 h2=>a6f (a3q h1 rfl) (a3q h2 rfl)) (λf37=>?_)
  refine Js.joinL (i:=4) (j:=0) (Vs:=lResult (acc++[(M.Res.mk (k:Int) ((M.getI (((M.done r p (k:Int)).1).stores) p.player) - (M.getI p.stores p.player)) (r.again && (decide (((M.done r p (k:Int)).1).last=(-1)))) (M.Pos.mk (((M.done r p (k:Int)).1).pits) (((M.done r p (k:Int)).1).stores) (1 - p.player)))])) rfl rfl (a4w _ _) (λf38=>?_)
  refine zn ?_
  refine Js.blockEnd<|Js.region<|Qp rfl rfl<|Qm rfl<|JL.nil ?_
  refine zd [0,3,3,3] rfl λu39 x39=>?_
  exact zag ⟨k + 1,acc++[(M.Res.mk (k:Int) ((M.getI (((M.done r p (k:Int)).1).stores) p.player) - (M.getI p.stores p.player)) (r.again && (decide (((M.done r p (k:Int)).1).last=(-1)))) (M.Pos.mk (((M.done r p (k:Int)).1).pits) (((M.done r p (k:Int)).1).stores) (1 - p.player)))],_,_,_,_,_,rfl,rfl,by rw[hacc];exact hacc2,zt,zu,zu,rfl⟩ (x8.trans x39)
 have hR:acc=M.results r p:=by rw[hacc];unfold M.results;rw[show k=r.pits.toNat by omega]
 refine zx ?_
 have hq0:acc=M.results r p:=by exact hR
 refine zS<|Qm rfl<|Qa rfl<|JL.nil ?_
 exact zro x8
theorem zq22(r:M.Rul){v_r:Value}(p:M.Pos){v_p:Value}(move:Int){w:World}(h_r:(Ty.agg (cRules r)).ok w v_r)(h_p:(Ty.agg (cPosition p)).ok w v_p)(r0:p.pits.length<=4194304:=by exact om_)(r1:p.stores.length<=4194304:=by exact om_):Ret Tryz.prog 86 [v_r,v_p,.int .i64 move] w (Ty.tup [Ty.agg (cResult ((M.make r p move).1)),Ty.int ((M.make r p move).2)]):=by
 revert v_r;apply opn
 revert v_p;apply opn
 intro A1 c1 h1 bl1 bh1 A2 c2 h2 bl2 bh2
 refine enter @Tryz.func86 @Tryz.ntmps86 rfl rfl ?_
 refine zent ?_
 refine zS<|zb rfl λb3=>zb rfl λb4=>za zeh λb5=>Qa rfl<|zJ<|zS<|Q9 2 rfl rfl ?_
 refine Q9 1 rfl rfl ?_
 refine Qm rfl<|zv rfl (λw hw=>zq150 r p move (ok_ hw) (ok_ hw))<|Qa rfl<|zN<|Qm rfl<|Qd rfl rfl<|JL.nil ?_
 refine zi (λh6 h6'=>?_) λh6 h6'=>?_
 ·have hD:=M.b0d (r:=r) (p:=p) (move:=move) (by simpa using h6)
  have hq0:0=((M.make r p move).1).move:=by first|exact hE|(rw[hm];done)|(rw[hD];done)|(rw[hD];rfl)
  have hq1:0=((M.make r p move).1).gain:=by first|exact hE|(rw[hm];done)|(rw[hD];done)|(rw[hD];rfl)
  have hq2:false=((M.make r p move).1).again:=by first|exact hE|(rw[hm];done)|(rw[hD];done)|(rw[hD];rfl)
  have hq3:[]=(((M.make r p move).1).next).pits:=by first|exact hE|(rw[hm];done)|(rw[hD];done)|(rw[hD];rfl)
  have hq4:[]=(((M.make r p move).1).next).stores:=by first|exact hE|(rw[hm];done)|(rw[hD];done)|(rw[hD];rfl)
  have hq5:0=(((M.make r p move).1).next).player:=by first|exact hE|(rw[hm];done)|(rw[hD];done)|(rw[hD];rfl)
  have hq6:((M.done r p move).2)=(M.make r p move).2:=by first|exact hE|(rw[hm];done)|(rw[hD];done)|(rw[hD];rfl)
  refine zS<|Qb ?_
  refine Qm rfl<|zw 0 rfl rfl rfl ?_
  refine Qa rfl<|JL.nil ?_
  exact zro (Up.refl _ _)
 have hz:(M.done r p move).2=0:=by simpa using h6
 have hm:(M.make r p move).2=0:=by rw[M.a4y];exact hz
 have hok:=(M.a2n hm).1
 refine Js.skip<|Js.seq<|zS<|Q9 2 rfl rfl ?_
 refine Q9 1 rfl rfl ?_
 refine zcs rfl (λw hw=>zq151 r p (ok_ hw) (ok_ hw) (r0:=hok)) ?_
 intro A7 c7 vs7 f7 bl7 bh7
 refine Qz rfl<|Qm rfl<|JL.nil<|Js.block ?_
 refine zl [2,6,21,22] (λF U l os u m=>∃ (k:Nat),l=F [(23,.int .i64 (k:Int))]/\os=U []/\(k<=(M.results r p).length)/\(∀ (j:Nat) (x:M.Res),j < k->(M.results r p)[j]?=some x->x.move≠move)/\m=(M.results r p).length - k) ⟨0,rfl,rfl,zt,by exact λj x hj=>absurd hj (by omega),rfl⟩ ?_
 rintro _ _ u8 _ ⟨k,rfl,rfl,hk,hn,rfl⟩ x8
 refine zn ?_
 refine zS<|Ql rfl rfl<|zJ ?_
 refine zi (λh9 h9'=>?_) λh9 h9'=>?_
 ·refine Js.skip<|Js.seq<|Js.block<|zS ?_
  refine JL.fact (a0s (i:=0) rfl (by omega)) (λhf11=>?_)
  obtain⟨b11,rfl⟩:=hf11
  obtain⟨y10,hy10⟩:∃ x,(M.results r p)[k]?=some x:=⟨_,List.getElem?_eq_getElem (by omega)⟩
  refine JL.fact (λw hw=>b4g (Mem.ownC (i:=1) rfl w hw) hy10) (λhf10=>?_)
  obtain⟨A10_3,c10_3,A10_4,c10_4,he10,bl10_3,bh10_3,bl10_4,bh10_4⟩:=hf10
  refine Qq (a0a a3a rfl rfl (by omega) (by omega) rfl)<|Qw (b0f ty_109.h rfl (Mem.rowR' (i:=0) rfl he10) rfl rfl)<|za zeh λb12=>zw 0 rfl rfl rfl ?_
  refine zN<|Qf fh rfl<|Q0 0 rfl rfl rfl<|Qm rfl<|Qe rfl rfl<|JL.nil ?_
  refine zi (λh13 h13'=>?_) λh13 h13'=>?_
  ·have hE:=M.b6s hy10 (by simpa using h13)
   have hm2:=hm.symm
   refine zS<|Q9 0 rfl rfl ?_
   refine zw 3 rfl rfl rfl ?_
   refine Qa rfl<|JL.nil ?_
   refine Js.elemO cResult (i:=2) (xs:=(M.results r p)) (λ_=>rfl) rfl hy10 he10 (λf14 f14a f14b=>?_)
   refine zn ?_
   have hq0:y10=(M.make r p move).1:=by first|exact hE|(rw[hm];done)|(rw[hD];done)|(rw[hD];rfl)
   have hq1:0=(M.make r p move).2:=by first|exact hE|(rw[hm];done)|(rw[hD];done)|(rw[hD];rfl)
   exact zro x8
  have hn2:=M.none_step hn hy10 (by simpa using h13)
  refine Js.skip<|Js.blockEnd<|Js.region<|Qp rfl rfl<|Qm rfl<|JL.nil ?_
  refine zd [1,1,1,1,1] rfl λu15 x15=>?_
  exact zag ⟨k + 1,rfl,rfl,zt,by exact hn2,rfl⟩ (x8.trans x15)
 obtain⟨j,hj,hx,hmv⟩:=M.b6p hm;have h9:=h9;simp at h9;exact absurd hmv (hn j _ (by omega) hx)
theorem zq5(n:Int){w:World}(r0 : -9223372036854775808<=n:=by exact om_)(r1:n<=9223372036854775807:=by exact om_):RetV Tryz.prog 100 [.int .i64 n] w (.string (sB (M.dec n))):=by
 refine enter @Tryz.func100 @Tryz.ntmps100 rfl rfl ?_
 refine zent ?_
 refine zS<|Qa rfl<|zN<|zbs λb1=>?_
 refine Qa rfl<|zJ<|zS<|Qm rfl<|Qa rfl<|JL.nil<|Js.block ?_
 refine zl [0] (λF U l os u m=>∃ (k:Int) (out:List UInt8) (A3_3:Option Addr) (c3_3:Nat) (g3_3:List Nat),l=F [(3,.slice A3_3 out.length c3_3),(4,.int .i64 k)]/\os=U [some (rowO 5 1 (.slice A3_3 out.length c3_3) out.length (byt_ out) g3_3)]/\(M.DecI n k out)/\(-9223372036854775808<=k)/\(k<=9223372036854775807)/\(out.length<=c3_3)/\(c3_3<=9223372036854775807)/\m=k.natAbs) ⟨n,([]:List UInt8),_,_,_,rfl,rfl,by exact M.DecI.zero n,zt,zt,zu,zu,rfl⟩ ?_
 rintro _ _ u3 _ ⟨k,out,A3_3,c3_3,g3_3,rfl,rfl,hD,hk0,hk1,f3_3,f3_4,rfl⟩ x3
 refine zn ?_
 obtain⟨t1,t2,t3,t4⟩:=M.tdiv10_bd hk0 hk1
 have hol:=hD.len r0 r1
 obtain⟨t5,t6⟩:=M.tdiv10 k
 refine Js.seq<|zS<|Qm rfl<|Qd rfl rfl<|JL.nil ?_
 refine zi (λh4 h4'=>?_) λh4 h4'=>?_
 ·have hkn:k≠0:=by simpa using h4
  refine Js.skip<|Js.seq<|Js.block<|zS<|Qm rfl<|Qq (p_rem rfl rfl (by omega) rfl)<|Qa rfl<|zJ<|zS<|Qm rfl<|Ql rfl rfl<|JL.nil ?_
  refine zi (λh5 h5'=>?_) λh5 h5'=>?_
  ·have hd9:=h5'
   have hD2:=hD.step (d:=-k.tmod 10) hkn (by omega)
   have hu8:((M.u8 (48 + (-(k.tmod 10)))).toNat:Int)=48 + (-(k.tmod 10)):=M.b5r (by omega) (by omega)
   refine Js.region<|Qm rfl<|Qq (p_neg (r:=-(k.tmod 10)) rfl (by rw[Int.zero_sub];exact IntWalk.i64_in _ (by omega)))<|Qa rfl<|zG<|Qm rfl<|Qp rfl rfl<|Qq (a4u @Tryz.underlying2 @Tryz.underlying5 rfl (IntWalk.u8_in _ (by omega)))<|zbs λb6=>?_
   refine Qm rfl ?_
   refine JL.e (a0g (i:=0) (n':=(([M.u8 (48 + (-(k.tmod 10)))]:List UInt8)++out).length) (vs':=byt_ (([M.u8 (48 + (-(k.tmod 10)))]:List UInt8)++out)) el_22 rfl rfl rfl rfl (a8y (i:=1) a4z rfl (byt_one _)) (by omega) (by omega) ln2_ (by first|rfl|(simp[byt_,hu8];done))) ?_
   rintro v9 _ _ ⟨⟨g10,rfl⟩,rfl⟩ _
   refine JL.fact (row_form' (i:=0) rfl) (λhf11=>?_)
   obtain⟨A11,c11,rfl,bl11,bh11⟩:=hf11
   refine znl ?_
   refine Qa rfl<|JL.nil<|Js.blockEnd<|Js.region<|Qm rfl<|Qq (p_quo rfl rfl (by omega) (IntWalk.i64_in _ (by omega)))<|Qa rfl<|JL.nil ?_
   refine zd [0] rfl λu12 x12=>?_
   exact zag ⟨k.tdiv 10,([M.u8 (48 + (-(k.tmod 10)))]:List UInt8)++out,_,_,_,rfl,rfl,by exact hD2,zt,zt,zu,zu,rfl⟩ (x3.trans x12)
  have hd9:=h5'
  have hD2:=hD.step (d:=k.tmod 10) hkn (by omega)
  have hu15:((M.u8 (48 + (k.tmod 10))).toNat:Int)=48 + (k.tmod 10):=M.b5r (by omega) (by omega)
  refine Js.skip<|Js.region<|Qm rfl<|Qp rfl rfl<|Qq (a4u @Tryz.underlying2 @Tryz.underlying5 rfl (IntWalk.u8_in _ (by omega)))<|zbs λb13=>?_
  refine Qm rfl ?_
  refine JL.e (a0g (i:=0) (n':=(([M.u8 (48 + (k.tmod 10))]:List UInt8)++out).length) (vs':=byt_ (([M.u8 (48 + (k.tmod 10))]:List UInt8)++out)) el_22 rfl rfl rfl rfl (a8y (i:=1) a4z rfl (byt_one _)) (by omega) (by omega) ln2_ (by first|rfl|(simp[byt_,hu15];done))) ?_
  rintro v16 _ _ ⟨⟨g17,rfl⟩,rfl⟩ _
  refine JL.fact (row_form' (i:=0) rfl) (λhf18=>?_)
  obtain⟨A18,c18,rfl,bl18,bh18⟩:=hf18
  refine znl ?_
  refine Qa rfl<|JL.nil<|Js.blockEnd<|Js.region<|Qm rfl<|Qq (p_quo rfl rfl (by omega) (IntWalk.i64_in _ (by omega)))<|Qa rfl<|JL.nil ?_
  refine zd [0] rfl λu19 x19=>?_
  exact zag ⟨k.tdiv 10,([M.u8 (48 + (k.tmod 10))]:List UInt8)++out,_,_,_,rfl,rfl,by exact hD2,zt,zt,zu,zu,rfl⟩ (x3.trans x19)
 have hk9:k=0:=by simpa using h4
 subst hk9
 refine zx ?_
 refine Js.seq<|zS<|Qm rfl<|Qz rfl<|Qe rfl rfl<|JL.nil ?_
 refine zi (λh20 h20'=>?_) λh20 h20'=>?_
 ·have hE:=hD.done0 (by have:=h20';omega) r0 r1
  refine zS<|Qa rfl<|JL.nil ?_
  refine zR x3 ?_
  rw[hE];rfl
 have hl9:out.length≠0:=by have:=h20';omega
 have lb9:LenB out 20:=⟨hol⟩
 refine Js.skip<|Js.seq<|zS<|Qm rfl<|Ql rfl rfl<|JL.nil ?_
 refine zi (λh21 h21'=>?_) λh21 h21'=>?_
 ·have hE:=hD.neg hl9 (by simpa using h21) r0 r1
  refine zS<|Qm rfl<|Qw (q_toStr (i:=0) a4z @Tryz.underlying5 und_9 rfl rfl)<|Qq (q_cat rfl rfl)<|Qa rfl<|JL.nil ?_
  refine zR x3 ?_
  rw[hE];rfl
 have hE:=hD.pos hl9 (by simpa using h21) r0 r1
 refine Js.skip<|zS<|Qm rfl<|Qw (q_toStr (i:=0) a4z @Tryz.underlying5 und_9 rfl rfl)<|Qa rfl<|JL.nil ?_
 refine zR x3 ?_
 rw[hE];rfl
end Go.Proofs.YtjgohnaobbphpaaGreatDoor

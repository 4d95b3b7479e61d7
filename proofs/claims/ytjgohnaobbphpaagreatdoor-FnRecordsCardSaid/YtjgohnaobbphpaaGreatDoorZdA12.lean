/- Walks: G7. -/
import Derived.Test.YtjgohnaobbphpaaGreatDoorZdA4
import Derived.Test.YtjgohnaobbphpaaGreatDoorZdA10
import Derived.Test.YtjgohnaobbphpaaGreatDoorZdA11
import Derived.Test.YtjgohnaobbphpaaGreatDoorZdA5
import Derived.Test.YtjgohnaobbphpaaGreatDoorZdA9
set_option linter.unusedSimpArgs false
set_option linter.unusedVariables false
set_option maxRecDepth 100000
attribute [local irreducible] Go.Proofs.YtjgohnaobbphpaaGreatDoor.gv
set_option maxHeartbeats 16000000
namespace Go.Proofs.YtjgohnaobbphpaaGreatDoor
open Go.RowKit
theorem zq110(g:M.Gam){v_g:Value}{w:World}(h_g:(Ty.agg (cGame g)).ok w v_g)(r0:g.start.pits.length<=4194304:=by exact om_)(r1:g.start.stores.length<=4194304:=by exact om_)(r2:g.moves.length<=4194304:=by exact om_)(r3:g.now.pits.length<=4194304:=by exact om_)(r4:g.now.stores.length<=4194304:=by exact om_):Ret Tryz.prog 190 [v_g] w (Ty.agg (cGame g)):=by
 revert v_g;apply opn
 intro A1 c1 h1 bl1 bh1 A2 c2 h2 bl2 bh2 A3 c3 h3 bl3 bh3 A4 c4 h4 bl4 bh4 A5 c5 h5 bl5 bh5
 refine enter @Tryz.func190 @Tryz.ntmps190 rfl rfl ?_
 refine zent ?_
 refine zS<|zb rfl λb6=>za zeh λb7=>zJ ?_
 refine zdr [14] ?_
 refine jF 0 a1u rfl rfl ?_
 refine JH.q 1 rfl (L9 1 rfl rfl) ?_
 refine jF 2 a2l rfl rfl ?_
 refine JH.q 3 rfl (L9 1 rfl rfl) ?_
 refine jF 5 a0x rfl rfl ?_
 refine jB 6 1 ty_26 rfl rfl rfl rfl ?_
 refine jF 8 a1r rfl rfl ?_
 refine JH.q 9 rfl (L9 1 rfl rfl) ?_
 refine jF 11 a4r rfl rfl ?_
 refine jB 12 1 ty_2 rfl rfl rfl rfl ?_
 refine y1 4 ?_
 refine yc rfl rfl (λw hw=>zq6 g.start (ok_ hw)) ?_
 intro A9 c9 bl9 bh9 A10 c10 bl10 bh10
 refine y1 7 ?_
 refine ycs rfl rfl (λw hw=>zq16 g.moves (ok_ hw)) ?_
 intro A11 c11 bl11 bh11
 refine y1 10 ?_
 refine yc rfl rfl (λw hw=>zq6 g.now (ok_ hw)) ?_
 intro A13 c13 bl13 bh13 A14 c14 bl14 bh14
 refine JH.p 13 rfl (q_bld) ?_
 refine y1 14 ?_
 refine yst rfl rfl rfl ?_
 refine yd ?_
 exact zro (Up.refl _ _)
theorem zq59(g:M.Gam){v_g:Value}(move:Int){w:World}(h_g:(Ty.agg (cGame g)).ok w v_g)(r0:g.start.pits.length<=4194304:=by exact om_)(r1:g.start.stores.length<=4194304:=by exact om_)(r2:g.moves.length<=4194304:=by exact om_)(r3:g.now.pits.length<=4194304:=by exact om_)(r4:g.now.stores.length<=4194304:=by exact om_):Ret Tryz.prog 163 [v_g,.int .i64 move] w (Ty.tup [Ty.agg (cGame ((M.play g move).1)),Ty.int ((M.play g move).2)]):=by
 revert v_g;apply opn
 intro A1 c1 h1 bl1 bh1 A2 c2 h2 bl2 bh2 A3 c3 h3 bl3 bh3 A4 c4 h4 bl4 bh4 A5 c5 h5 bl5 bh5
 refine enter @Tryz.func163 @Tryz.ntmps163 rfl rfl ?_
 refine zent ?_
 refine zS<|zb rfl λb6=>za zeh λb7=>Qa rfl<|zJ<|zS<|Qf fh rfl<|Q0 1 rfl rfl rfl<|Qh rfl rfl<|JL.nil ?_
 refine zi (λh8 h8'=>?_) λh8 h8'=>?_
 ·have hE:=M.a7d (g:=g) (move:=move) (by simpa using h8)
  have hq0:0=(((M.play g move).1).rules).pits:=rp_ hE
  have hq1:0=(((M.play g move).1).rules).seeds:=rp_ hE
  have hq2:false=(((M.play g move).1).rules).stores:=rp_ hE
  have hq3:false=(((M.play g move).1).rules).skip:=rp_ hE
  have hq4:false=(((M.play g move).1).rules).relay:=rp_ hE
  have hq5:false=(((M.play g move).1).rules).feed:=rp_ hE
  have hq6:false=(((M.play g move).1).rules).again:=rp_ hE
  have hq7:0=(((M.play g move).1).rules).capture:=rp_ hE
  have hq8:0=(((M.play g move).1).rules).slam:=rp_ hE
  have hq9:[]=(((M.play g move).1).start).pits:=rp_ hE
  have hq10:[]=(((M.play g move).1).start).stores:=rp_ hE
  have hq11:0=(((M.play g move).1).start).player:=rp_ hE
  have hq12:[]=((M.play g move).1).moves:=rp_ hE
  have hq13:[]=(((M.play g move).1).now).pits:=rp_ hE
  have hq14:[]=(((M.play g move).1).now).stores:=rp_ hE
  have hq15:0=(((M.play g move).1).now).player:=rp_ hE
  have hq16:0=((M.play g move).1).resigned:=rp_ hE
  have hq17:6=(M.play g move).2:=rp_ hE
  refine zS<|Qb ?_
  refine zw 0 rfl rfl rfl ?_
  refine Qa rfl<|JL.nil ?_
  exact zro (Up.refl _ _)
 have q1:¬ 0<=g.resigned:=by simpa using h8
 refine Js.skip<|Js.seq<|zS<|Qf fh rfl<|Q0 1 rfl rfl rfl<|Qz rfl<|Qe rfl rfl<|JL.nil ?_
 refine zi (λh9 h9'=>?_) λh9 h9'=>?_
 ·have hE:=M.a8h (move:=move) q1 (by have:=h9';omega)
  have hq0:0=(((M.play g move).1).rules).pits:=rp_ hE
  have hq1:0=(((M.play g move).1).rules).seeds:=rp_ hE
  have hq2:false=(((M.play g move).1).rules).stores:=rp_ hE
  have hq3:false=(((M.play g move).1).rules).skip:=rp_ hE
  have hq4:false=(((M.play g move).1).rules).relay:=rp_ hE
  have hq5:false=(((M.play g move).1).rules).feed:=rp_ hE
  have hq6:false=(((M.play g move).1).rules).again:=rp_ hE
  have hq7:0=(((M.play g move).1).rules).capture:=rp_ hE
  have hq8:0=(((M.play g move).1).rules).slam:=rp_ hE
  have hq9:[]=(((M.play g move).1).start).pits:=rp_ hE
  have hq10:[]=(((M.play g move).1).start).stores:=rp_ hE
  have hq11:0=(((M.play g move).1).start).player:=rp_ hE
  have hq12:[]=((M.play g move).1).moves:=rp_ hE
  have hq13:[]=(((M.play g move).1).now).pits:=rp_ hE
  have hq14:[]=(((M.play g move).1).now).stores:=rp_ hE
  have hq15:0=(((M.play g move).1).now).player:=rp_ hE
  have hq16:0=((M.play g move).1).resigned:=rp_ hE
  have hq17:5=(M.play g move).2:=rp_ hE
  refine zS<|Qb ?_
  refine zw 0 rfl rfl rfl ?_
  refine Qa rfl<|JL.nil ?_
  exact zro (Up.refl _ _)
 have q2:g.moves.length≠120:=by have:=h9';omega
 refine Js.skip<|zS<|Qf fh rfl<|Q9 1 rfl rfl ?_
 refine Qf fh rfl<|Q9 1 rfl rfl ?_
 refine Qm rfl<|zc rfl (λw hw=>zq22 g.rules g.now move (ok_ hw) (ok_ hw)) ?_
 intro A12 c12 bl12 bh12 A13 c13 bl13 bh13
 refine Qm rfl<|Qx rfl rfl<|Qx rfl rfl<|za zeh λb14=>zw 0 rfl rfl rfl ?_
 refine Qa rfl<|zJ<|zS<|Qm rfl<|Qd rfl rfl<|JL.nil ?_
 refine zi (λh15 h15'=>?_) λh15 h15'=>?_
 ·have hE:=M.a8o q1 q2 (move:=move) (by simpa using h15)
  have hq0:0=(((M.play g move).1).rules).pits:=rp_ hE
  have hq1:0=(((M.play g move).1).rules).seeds:=rp_ hE
  have hq2:false=(((M.play g move).1).rules).stores:=rp_ hE
  have hq3:false=(((M.play g move).1).rules).skip:=rp_ hE
  have hq4:false=(((M.play g move).1).rules).relay:=rp_ hE
  have hq5:false=(((M.play g move).1).rules).feed:=rp_ hE
  have hq6:false=(((M.play g move).1).rules).again:=rp_ hE
  have hq7:0=(((M.play g move).1).rules).capture:=rp_ hE
  have hq8:0=(((M.play g move).1).rules).slam:=rp_ hE
  have hq9:[]=(((M.play g move).1).start).pits:=rp_ hE
  have hq10:[]=(((M.play g move).1).start).stores:=rp_ hE
  have hq11:0=(((M.play g move).1).start).player:=rp_ hE
  have hq12:[]=((M.play g move).1).moves:=rp_ hE
  have hq13:[]=(((M.play g move).1).now).pits:=rp_ hE
  have hq14:[]=(((M.play g move).1).now).stores:=rp_ hE
  have hq15:0=(((M.play g move).1).now).player:=rp_ hE
  have hq16:0=((M.play g move).1).resigned:=rp_ hE
  have hq17:((M.make g.rules g.now move).2)=(M.play g move).2:=rp_ hE
  refine zS<|Qb ?_
  refine Qm rfl<|zw 3 rfl rfl rfl ?_
  refine Qa rfl<|JL.nil ?_
  exact zro (Up.refl _ _)
 have hz:(M.make g.rules g.now move).2=0:=by simpa using h15
 have hE:=M.a6w q1 q2 hz
 refine Js.skip<|zS<|Q9 4 rfl rfl ?_
 refine zc rfl (λw hw=>zq110 g (ok_ hw)) ?_
 intro A17 c17 bl17 bh17 A18 c18 bl18 bh18 A19 c19 bl19 bh19 A20 c20 bl20 bh20 A21 c21 bl21 bh21
 refine za zeh λb22=>zw 0 rfl rfl rfl ?_
 refine zJ ?_
 refine zk [4,8] (λF U l os u=>∃ (b23:Nat) (A27:Option Addr) (c27:Nat) (g26:List Nat),l=F []/\os=[rowO 2 1 (.slice (some ⟨b23,0,none⟩) 1 1) 1 [.int .i64 move] []]++U [some (boxO b22 [.int .i64 g.rules.pits,.int .i64 g.rules.seeds,.bool g.rules.stores,.bool g.rules.skip,.bool g.rules.relay,.bool g.rules.feed,.bool g.rules.again,.int .i64 g.rules.capture,.int .i64 g.rules.slam,.slice A17 g.start.pits.length c17,.slice A18 g.start.stores.length c18,.int .i64 g.start.player,.slice A27 ((g.moves++[move]).length) c27,.slice A12 (((((M.make g.rules g.now move).1).next).pits).length) c12,.slice A13 (((((M.make g.rules g.now move).1).next).stores).length) c13,.int .i64 ((((M.make g.rules g.now move).1).next).player),.int .i64 g.resigned] 53),nO,nO,some (rowO 2 1 (.slice A27 ((g.moves++[move]).length) c27) ((g.moves++[move]).length) (ints_ (g.moves++[move])) g26)]/\((g.moves++[move]).length<=c27)/\(c27<=9223372036854775807)) ?_ ?_
 ·refine zdr [4,8,10] ?_
  refine jF 0 a0x rfl rfl ?_
  refine jB 1 0 ty_26 rfl rfl rfl rfl ?_
  refine jM 2 rfl rfl ?_
  refine jF 5 b4d rfl rfl ?_
  refine y2 3 6 ?_ ?_
  ·refine ybs rfl λb37=>?_
   refine y2 4 6 ?_ ?_
   ·refine JHo.e rfl (a0g (i:=4) (n':=(g.moves++[move]).length) (vs':=ints_ (g.moves++[move])) el_26 rfl rfl rfl rfl (a0k (i:=0) a1h rfl rfl) (by omega) (by omega) ln2_ (by simp[ints_])) (.inr rfl) ?_
    rintro v39 _ _ ⟨⟨g40,rfl⟩,rfl⟩ _
    refine JH.fact (row_form' (i:=4) rfl) (λhf41=>?_)
    obtain⟨A41,c41,rfl,bl41,bh41⟩:=hf41
    refine znh ?_
    refine jF 7 a0x rfl rfl ?_
    refine y2 6 8 ?_ ?_
    ·refine JHo.q rfl (L9 7 rfl rfl) ?_
     refine y1 8 ?_
     refine yst rfl rfl rfl ?_
     refine jF 9 a1r rfl rfl ?_
     refine y1 10 ?_
     refine yst rfl rfl rfl ?_
     refine yd ?_
     exact zm ⟨_,_,_,_,rfl,rfl,zt,zt⟩ (Up.refl _ _)
    refine yst rfl rfl rfl ?_
    refine y1 6 ?_
    refine JHo.q rfl (L9 7 rfl rfl) ?_
    refine jF 9 a1r rfl rfl ?_
    refine y1 10 ?_
    refine yst rfl rfl rfl ?_
    refine yd ?_
    exact zm ⟨_,_,_,_,rfl,rfl,zt,zt⟩ (Up.refl _ _)
   refine JHo.q rfl (L9 7 rfl rfl) ?_
   refine y1 4 ?_
   refine JHo.e rfl (a0g (i:=4) (n':=(g.moves++[move]).length) (vs':=ints_ (g.moves++[move])) el_26 rfl rfl rfl rfl (a0k (i:=0) a1h rfl rfl) (by omega) (by omega) ln2_ (by simp[ints_])) (.inr rfl) ?_
   rintro v42 _ _ ⟨⟨g43,rfl⟩,rfl⟩ _
   refine JH.fact (row_form' (i:=4) rfl) (λhf44=>?_)
   obtain⟨A44,c44,rfl,bl44,bh44⟩:=hf44
   refine znh ?_
   refine jF 7 a0x rfl rfl ?_
   refine y1 8 ?_
   refine yst rfl rfl rfl ?_
   refine jF 9 a1r rfl rfl ?_
   refine y1 10 ?_
   refine yst rfl rfl rfl ?_
   refine yd ?_
   exact zm ⟨_,_,_,_,rfl,rfl,zt,zt⟩ (Up.refl _ _)
  refine JHo.q rfl (L9 6 rfl rfl) ?_
  refine y1 3 ?_
  refine ybs rfl λb45=>?_
  refine y1 4 ?_
  refine JHo.e rfl (a0g (i:=4) (n':=(g.moves++[move]).length) (vs':=ints_ (g.moves++[move])) el_26 rfl rfl rfl rfl (a0k (i:=0) a1h rfl rfl) (by omega) (by omega) ln2_ (by simp[ints_])) (.inr rfl) ?_
  rintro v47 _ _ ⟨⟨g48,rfl⟩,rfl⟩ _
  refine JH.fact (row_form' (i:=4) rfl) (λhf49=>?_)
  obtain⟨A49,c49,rfl,bl49,bh49⟩:=hf49
  refine znh ?_
  refine jF 7 a0x rfl rfl ?_
  refine y1 8 ?_
  refine yst rfl rfl rfl ?_
  refine jF 9 a1r rfl rfl ?_
  refine y1 10 ?_
  refine yst rfl rfl rfl ?_
  refine yd ?_
  exact zm ⟨_,_,_,_,rfl,rfl,zt,zt⟩ (Up.refl _ _)
 rintro _ _ u36 ⟨b23,A27,c27,g26,rfl,rfl,f36_0,f36_1⟩ x36
 refine zn ?_
 have hq0:g.rules.pits=(((M.play g move).1).rules).pits:=rp_ hE
 have hq1:g.rules.seeds=(((M.play g move).1).rules).seeds:=rp_ hE
 have hq2:g.rules.stores=(((M.play g move).1).rules).stores:=rp_ hE
 have hq3:g.rules.skip=(((M.play g move).1).rules).skip:=rp_ hE
 have hq4:g.rules.relay=(((M.play g move).1).rules).relay:=rp_ hE
 have hq5:g.rules.feed=(((M.play g move).1).rules).feed:=rp_ hE
 have hq6:g.rules.again=(((M.play g move).1).rules).again:=rp_ hE
 have hq7:g.rules.capture=(((M.play g move).1).rules).capture:=rp_ hE
 have hq8:g.rules.slam=(((M.play g move).1).rules).slam:=rp_ hE
 have hq9:g.start.pits=(((M.play g move).1).start).pits:=rp_ hE
 have hq10:g.start.stores=(((M.play g move).1).start).stores:=rp_ hE
 have hq11:g.start.player=(((M.play g move).1).start).player:=rp_ hE
 have hq12:(g.moves++[move])=((M.play g move).1).moves:=rp_ hE
 have hq13:((((M.make g.rules g.now move).1).next).pits)=(((M.play g move).1).now).pits:=rp_ hE
 have hq14:((((M.make g.rules g.now move).1).next).stores)=(((M.play g move).1).now).stores:=rp_ hE
 have hq15:((((M.make g.rules g.now move).1).next).player)=(((M.play g move).1).now).player:=rp_ hE
 have hq16:g.resigned=((M.play g move).1).resigned:=rp_ hE
 have hq17:0=(M.play g move).2:=rp_ hE
 refine zS<|Q9 1 rfl rfl ?_
 refine zw 10 rfl rfl rfl ?_
 refine Qa rfl<|JL.nil ?_
 exact zro x36
theorem zq111(line:List UInt8){w:World}(h_tab:tabT.ok w undef)(r0:line.length<=100000:=by exact om_):Ret Tryz.prog 162 [.string (sB line)] w (Ty.tup [Ty.agg (ctri (M.Tri.mk (M.numI line).1.1 (M.numI line).1.2.1 (M.numI line).1.2.2)),Ty.bool ((M.numI line).2)]):=by
 refine enter @Tryz.func162 @Tryz.ntmps162 rfl rfl ?_
 refine zent ?_
 have l1:=M.a3c line [46,32]
 have l2:=M.a3c (M.cutS line [46,32]).2.1 [43]
 have hq0:((M.num ((M.cutS line ([46,32]:List UInt8)).1)).1)=(M.numI line).1.1:=by first|rfl|(simp[M.numI];done)
 have hq1:((M.num ((M.cutS ((M.cutS line ([46,32]:List UInt8)).2.1) ([43]:List UInt8)).1)).1)=(M.numI line).1.2.1:=by first|rfl|(simp[M.numI];done)
 have hq2:((M.num ((M.cutS ((M.cutS line ([46,32]:List UInt8)).2.1) ([43]:List UInt8)).2.1)).1)=(M.numI line).1.2.2:=by first|rfl|(simp[M.numI];done)
 have hq3:((((((M.cutS line ([46,32]:List UInt8)).2.2) && ((M.cutS ((M.cutS line ([46,32]:List UInt8)).2.1) ([43]:List UInt8)).2.2)) && ((M.num ((M.cutS line ([46,32]:List UInt8)).1)).2)) && ((M.num ((M.cutS ((M.cutS line ([46,32]:List UInt8)).2.1) ([43]:List UInt8)).1)).2)) && ((M.num ((M.cutS ((M.cutS line ([46,32]:List UInt8)).2.1) ([43]:List UInt8)).2.1)).2))=(M.numI line).2:=by first|rfl|(simp[M.numI];done)
 refine zS<|za zeh λb1=>Qa rfl<|zN<|Qm rfl<|zv rfl (λw hw=>zq9 line ([46,32]:List UInt8))<|Qm rfl<|Qx rfl rfl<|Qx rfl rfl<|Qx rfl rfl<|Qa rfl<|Qa rfl<|Qa rfl<|zN ?_
 refine Qm rfl<|zv rfl (λw hw=>zq9 ((M.cutS line ([46,32]:List UInt8)).2.1) ([43]:List UInt8))<|Qm rfl<|Qx rfl rfl<|Qx rfl rfl<|Qx rfl rfl<|Qa rfl<|Qa rfl<|Qa rfl<|zN<|Qm rfl<|zv rfl (λw hw=>zq11 ((M.cutS line ([46,32]:List UInt8)).1) (ok_ hw))<|Qm rfl<|Qx rfl rfl ?_
 refine Qx rfl rfl<|Qa rfl<|Qa rfl<|zN<|Qm rfl<|zv rfl (λw hw=>zq11 ((M.cutS ((M.cutS line ([46,32]:List UInt8)).2.1) ([43]:List UInt8)).1) (ok_ hw))<|Qm rfl<|Qx rfl rfl<|Qx rfl rfl<|Qa rfl<|Qa rfl<|zN<|Qm rfl<|zv rfl (λw hw=>zq11 ((M.cutS ((M.cutS line ([46,32]:List UInt8)).2.1) ([43]:List UInt8)).2.1) (ok_ hw)) ?_
 refine Qm rfl<|Qx rfl rfl<|Qx rfl rfl<|Qa rfl<|Qa rfl<|zN<|Qm rfl<|Qm rfl<|Qm rfl<|Qq (q_bldA)<|Qm rfl<|Qm rfl<|zg (Gd.t1 rfl rfl rfl) (λhc=>a0e rfl)<|Qq (a0d rfl rfl rfl) ?_
 refine Qm rfl<|zg (Gd.t1 rfl rfl rfl) (λhc=>a0e rfl)<|Qq (a0d rfl rfl rfl)<|Qm rfl<|zg (Gd.t1 rfl rfl rfl) (λhc=>a0e rfl)<|Qq (a0d rfl rfl rfl)<|Qm rfl<|zg (Gd.t1 rfl rfl rfl) (λhc=>a0e rfl)<|Qq (a0d rfl rfl rfl)<|zw 0 rfl rfl rfl ?_
 refine Qa rfl<|JL.nil ?_
 exact zro (Up.refl _ _)
theorem zq112(c1a:M.Gam){Ax_9:Option Addr}{cx_9:Nat}{gx_9:List Nat}{Ax_10:Option Addr}{cx_10:Nat}{gx_10:List Nat}{Ax_12:Option Addr}{cx_12:Nat}{gx_12:List Nat}{Ax_13:Option Addr}{cx_13:Nat}{gx_13:List Nat}{Ax_14:Option Addr}{cx_14:Nat}{gx_14:List Nat}(at_:Int)(line:List UInt8){bx:Nat}{w:World}(hb:Bw w [boxO bx [.int .i64 c1a.rules.pits,.int .i64 c1a.rules.seeds,.bool c1a.rules.stores,.bool c1a.rules.skip,.bool c1a.rules.relay,.bool c1a.rules.feed,.bool c1a.rules.again,.int .i64 c1a.rules.capture,.int .i64 c1a.rules.slam,.slice Ax_9 c1a.start.pits.length cx_9,.slice Ax_10 c1a.start.stores.length cx_10,.int .i64 c1a.start.player,.slice Ax_12 c1a.moves.length cx_12,.slice Ax_13 c1a.now.pits.length cx_13,.slice Ax_14 c1a.now.stores.length cx_14,.int .i64 c1a.now.player,.int .i64 c1a.resigned] 157,rowO 2 1 (.slice Ax_9 c1a.start.pits.length cx_9) c1a.start.pits.length (ints_ c1a.start.pits) gx_9,rowO 2 1 (.slice Ax_10 c1a.start.stores.length cx_10) c1a.start.stores.length (ints_ c1a.start.stores) gx_10,rowO 2 1 (.slice Ax_12 c1a.moves.length cx_12) c1a.moves.length (ints_ c1a.moves) gx_12,rowO 2 1 (.slice Ax_13 c1a.now.pits.length cx_13) c1a.now.pits.length (ints_ c1a.now.pits) gx_13,rowO 2 1 (.slice Ax_14 c1a.now.stores.length cx_14) c1a.now.stores.length (ints_ c1a.now.stores) gx_14])(h_tab:tabT.ok (offW w (([boxO bx [.int .i64 c1a.rules.pits,.int .i64 c1a.rules.seeds,.bool c1a.rules.stores,.bool c1a.rules.skip,.bool c1a.rules.relay,.bool c1a.rules.feed,.bool c1a.rules.again,.int .i64 c1a.rules.capture,.int .i64 c1a.rules.slam,.slice Ax_9 c1a.start.pits.length cx_9,.slice Ax_10 c1a.start.stores.length cx_10,.int .i64 c1a.start.player,.slice Ax_12 c1a.moves.length cx_12,.slice Ax_13 c1a.now.pits.length cx_13,.slice Ax_14 c1a.now.stores.length cx_14,.int .i64 c1a.now.player,.int .i64 c1a.resigned] 157,rowO 2 1 (.slice Ax_9 c1a.start.pits.length cx_9) c1a.start.pits.length (ints_ c1a.start.pits) gx_9,rowO 2 1 (.slice Ax_10 c1a.start.stores.length cx_10) c1a.start.stores.length (ints_ c1a.start.stores) gx_10,rowO 2 1 (.slice Ax_12 c1a.moves.length cx_12) c1a.moves.length (ints_ c1a.moves) gx_12,rowO 2 1 (.slice Ax_13 c1a.now.pits.length cx_13) c1a.now.pits.length (ints_ c1a.now.pits) gx_13,rowO 2 1 (.slice Ax_14 c1a.now.stores.length cx_14) c1a.now.stores.length (ints_ c1a.now.stores) gx_14]:List Own).flatMap (·.fp))) undef)(bd0:c1a.start.pits.length<=cx_9:=by exact om_)(bd1:cx_9<=9223372036854775807:=by exact om_)(bd2:c1a.start.stores.length<=cx_10:=by exact om_)(bd3:cx_10<=9223372036854775807:=by exact om_)(bd4:c1a.moves.length<=cx_12:=by exact om_)(bd5:cx_12<=9223372036854775807:=by exact om_)(bd6:c1a.now.pits.length<=cx_13:=by exact om_)(bd7:cx_13<=9223372036854775807:=by exact om_)(bd8:c1a.now.stores.length<=cx_14:=by exact om_)(bd9:cx_14<=9223372036854775807:=by exact om_)(r0:c1a.start.pits.length<=1000:=by exact om_)(r1:c1a.start.stores.length<=1000:=by exact om_)(r2:c1a.moves.length<=1000:=by exact om_)(r3:c1a.now.pits.length<=1000:=by exact om_)(r4:c1a.now.stores.length<=1000:=by exact om_)(r5:line.length<=100000:=by exact om_):RetB Tryz.prog 119 [.pointer (some ⟨bx,0,none⟩),.int .i64 at_,.string (sB line)] w [boxO bx [.int .i64 c1a.rules.pits,.int .i64 c1a.rules.seeds,.bool c1a.rules.stores,.bool c1a.rules.skip,.bool c1a.rules.relay,.bool c1a.rules.feed,.bool c1a.rules.again,.int .i64 c1a.rules.capture,.int .i64 c1a.rules.slam,.slice Ax_9 c1a.start.pits.length cx_9,.slice Ax_10 c1a.start.stores.length cx_10,.int .i64 c1a.start.player,.slice Ax_12 c1a.moves.length cx_12,.slice Ax_13 c1a.now.pits.length cx_13,.slice Ax_14 c1a.now.stores.length cx_14,.int .i64 c1a.now.player,.int .i64 c1a.resigned] 157,rowO 2 1 (.slice Ax_9 c1a.start.pits.length cx_9) c1a.start.pits.length (ints_ c1a.start.pits) gx_9,rowO 2 1 (.slice Ax_10 c1a.start.stores.length cx_10) c1a.start.stores.length (ints_ c1a.start.stores) gx_10,rowO 2 1 (.slice Ax_12 c1a.moves.length cx_12) c1a.moves.length (ints_ c1a.moves) gx_12,rowO 2 1 (.slice Ax_13 c1a.now.pits.length cx_13) c1a.now.pits.length (ints_ c1a.now.pits) gx_13,rowO 2 1 (.slice Ax_14 c1a.now.stores.length cx_14) c1a.now.stores.length (ints_ c1a.now.stores) gx_14] (λv bs'=>∃ (Axx_9:Option Addr) (cxx_9:Nat) (gxx_9:List Nat) (Axx_10:Option Addr) (cxx_10:Nat) (gxx_10:List Nat) (Axx_12:Option Addr) (cxx_12:Nat) (gxx_12:List Nat) (Axx_13:Option Addr) (cxx_13:Nat) (gxx_13:List Nat) (Axx_14:Option Addr) (cxx_14:Nat) (gxx_14:List Nat),v=.int .i64 ((M.headI c1a at_ line).2)/\bs'=[boxO bx [.int .i64 ((((M.headI c1a at_ line).1).rules).pits),.int .i64 ((((M.headI c1a at_ line).1).rules).seeds),.bool ((((M.headI c1a at_ line).1).rules).stores),.bool ((((M.headI c1a at_ line).1).rules).skip),.bool ((((M.headI c1a at_ line).1).rules).relay),.bool ((((M.headI c1a at_ line).1).rules).feed),.bool ((((M.headI c1a at_ line).1).rules).again),.int .i64 ((((M.headI c1a at_ line).1).rules).capture),.int .i64 ((((M.headI c1a at_ line).1).rules).slam),.slice Axx_9 (((((M.headI c1a at_ line).1).start).pits).length) cxx_9,.slice Axx_10 (((((M.headI c1a at_ line).1).start).stores).length) cxx_10,.int .i64 ((((M.headI c1a at_ line).1).start).player),.slice Axx_12 ((((M.headI c1a at_ line).1).moves).length) cxx_12,.slice Axx_13 (((((M.headI c1a at_ line).1).now).pits).length) cxx_13,.slice Axx_14 (((((M.headI c1a at_ line).1).now).stores).length) cxx_14,.int .i64 ((((M.headI c1a at_ line).1).now).player),.int .i64 (((M.headI c1a at_ line).1).resigned)] 157,rowO 2 1 (.slice Axx_9 (((((M.headI c1a at_ line).1).start).pits).length) cxx_9) (((((M.headI c1a at_ line).1).start).pits).length) (ints_ ((((M.headI c1a at_ line).1).start).pits)) gxx_9,rowO 2 1 (.slice Axx_10 (((((M.headI c1a at_ line).1).start).stores).length) cxx_10) (((((M.headI c1a at_ line).1).start).stores).length) (ints_ ((((M.headI c1a at_ line).1).start).stores)) gxx_10,rowO 2 1 (.slice Axx_12 ((((M.headI c1a at_ line).1).moves).length) cxx_12) ((((M.headI c1a at_ line).1).moves).length) (ints_ (((M.headI c1a at_ line).1).moves)) gxx_12,rowO 2 1 (.slice Axx_13 (((((M.headI c1a at_ line).1).now).pits).length) cxx_13) (((((M.headI c1a at_ line).1).now).pits).length) (ints_ ((((M.headI c1a at_ line).1).now).pits)) gxx_13,rowO 2 1 (.slice Axx_14 (((((M.headI c1a at_ line).1).now).stores).length) cxx_14) (((((M.headI c1a at_ line).1).now).stores).length) (ints_ ((((M.headI c1a at_ line).1).now).stores)) gxx_14]/\((((M.headI c1a at_ line).1).start).pits).length<=cxx_9/\cxx_9<=9223372036854775807/\((((M.headI c1a at_ line).1).start).stores).length<=cxx_10/\cxx_10<=9223372036854775807/\(((M.headI c1a at_ line).1).moves).length<=cxx_12/\cxx_12<=9223372036854775807/\((((M.headI c1a at_ line).1).now).pits).length<=cxx_13/\cxx_13<=9223372036854775807/\((((M.headI c1a at_ line).1).now).stores).length<=cxx_14/\cxx_14<=9223372036854775807):=by
 refine enterB hb @Tryz.func119 @Tryz.ntmps119 rfl rfl ?_
 refine zent ?_
 refine Js.trashE ?_
 refine zn ?_
 have l1:=M.a3c line [32]
 obtain⟨q1,q2⟩:=M.b8r c1a.rules (M.cutS line [32]).2.1
 refine zS<|Qa rfl<|zN<|Qm rfl<|zv rfl (λw hw=>zq9 line ([32]:List UInt8))<|Qm rfl<|Qx rfl rfl<|Qx rfl rfl<|Qx rfl rfl<|Qa rfl<|Qa rfl<|Qa rfl<|zJ<|zS ?_
 refine Qm rfl<|Qe rfl rfl<|JL.nil ?_
 refine zi (λh1 h1'=>?_) λh1 h1'=>?_
 ·have h0:at_=0:=by simpa using h1
  refine zS<|Qm rfl<|zp rfl (λw hw=>zq108 ((M.cutS line ([32]:List UInt8)).2.1) (ok_ hw)) ?_
  intro u2 x2
  refine Qm rfl<|Qx rfl rfl<|Qx rfl rfl<|za zeh λb3=>zw 0 rfl rfl rfl ?_
  refine Qa rfl<|zJ<|zS<|Qm rfl<|Qq (a2f und_9 rfl rfl)<|Qm rfl<|zg (Gd.f1 rfl rfl rfl) (λhc=>a0e rfl)<|zg (Gd.f1 rfl rfl rfl) (λhc=>p_not (gh hc rfl))<|Qq (a0j rfl rfl rfl)<|JL.nil ?_
  refine zi (λh4 h4'=>?_) λh4 h4'=>?_
  ·have hV:=M.b3k (g:=c1a) (t:=line) h0 (fun ⟨d1,d2⟩=>by have h9:=h4;rw[d2] at h9;simp[d1,M.rulesW] at h9)
   refine zS<|Qa rfl<|JL.nil ?_
   refine zrb [1,1,1,1,1,1] hb x2 ?_
   have hE:(.int .i64 1:Value)=.int .i64 ((M.headI c1a at_ line).2):=rp_ hV
   have hE100:(M.headI c1a at_ line).1=c1a:=rp_ hV
   refine⟨Ax_9,cx_9,gx_9,Ax_10,cx_10,gx_10,Ax_12,cx_12,gx_12,Ax_13,cx_13,gx_13,Ax_14,cx_14,gx_14,hE, ?_, ?_, ?_, ?_, ?_, ?_, ?_, ?_, ?_, ?_, ?_⟩
   · rw[hE100]
   all_goals (first|omega|(simp only[hE100];omega)|(simp[hE100];done))
  have hV:=M.a8z (g:=c1a) (t:=line) h0 (by have h9:=h4;simp at h9;exact h9.1) (by have h9:=h4;simp at h9;exact h9.2)
  refine Js.skip<|zS<|Qm rfl<|Q9 0 rfl rfl ?_
  refine Qc rfl<|Qf fh rfl<|Qf fh rfl<|zw 1 rfl rfl rfl ?_
  refine zN<|Qa rfl<|JL.nil ?_
  refine zrb [1,1,1,1,1,1] hb x2 ?_
  have hE:(.int .i64 0:Value)=.int .i64 ((M.headI c1a at_ line).2):=rp_ hV
  have hE100:((M.headI c1a at_ line).1).rules=((M.readR ((M.cutS line ([32]:List UInt8)).2.1)).1):=rp_ hV
  have hE110:((M.headI c1a at_ line).1).start=c1a.start:=rp_ hV
  have hN1:(((M.headI c1a at_ line).1).moves).length=c1a.moves.length:=rp_ hV
  have hE1:((M.headI c1a at_ line).1).moves=c1a.moves:=rp_ hV
  have hE117:((M.headI c1a at_ line).1).now=c1a.now:=rp_ hV
  have hE2:((M.headI c1a at_ line).1).resigned=c1a.resigned:=rp_ hV
  refine⟨Ax_9,cx_9,gx_9,Ax_10,cx_10,gx_10,Ax_12,cx_12,gx_12,Ax_13,cx_13,gx_13,Ax_14,cx_14,gx_14,hE, ?_, ?_, ?_, ?_, ?_, ?_, ?_, ?_, ?_, ?_, ?_⟩
  · rw[hE100,hE110,hN1,hE1,hE117,hE2]
  all_goals (first|omega|(simp only[hE100,hE110,hN1,hE1,hE117,hE2];omega)|(simp[hE100,hE110,hN1,hE1,hE117,hE2];done))
 have h0:¬ at_=0:=by simpa using h1
 refine Js.skip<|zS<|Qm rfl<|Qc rfl<|Qf fh rfl<|Qf fh rfl<|Q9 0 rfl rfl ?_
 refine Qm rfl<|zc rfl (λw hw=>zq109 c1a.rules ((M.cutS line ([32]:List UInt8)).2.1) (ok_ hw) (ok_ hw)) ?_
 intro A7 c7 bl7 bh7 A8 c8 bl8 bh8
 refine Qm rfl<|Qx rfl rfl<|Qx rfl rfl<|za zeh λb9=>zw 0 rfl rfl rfl ?_
 refine Qa rfl<|zJ<|zS<|Qm rfl<|Qq (a2f und_9 rfl rfl)<|Qm rfl<|zg (Gd.f1 rfl rfl rfl) (λhc=>a0e rfl)<|zg (Gd.f1 rfl rfl rfl) (λhc=>p_not (gh hc rfl))<|Qq (a0j rfl rfl rfl)<|JL.nil ?_
 refine zi (λh10 h10'=>?_) λh10 h10'=>?_
 ·have hV:=M.b3l (g:=c1a) (t:=line) h0 (fun ⟨d1,d2⟩=>by have h9:=h10;rw[d2] at h9;simp[d1,M.startW] at h9)
  refine zS<|Qa rfl<|JL.nil ?_
  refine zrb [3,3,3,3,3,3] hb (Up.refl _ _) ?_
  have hE:(.int .i64 2:Value)=.int .i64 ((M.headI c1a at_ line).2):=rp_ hV
  have hE100:(M.headI c1a at_ line).1=c1a:=rp_ hV
  refine⟨Ax_9,cx_9,gx_9,Ax_10,cx_10,gx_10,Ax_12,cx_12,gx_12,Ax_13,cx_13,gx_13,Ax_14,cx_14,gx_14,hE, ?_, ?_, ?_, ?_, ?_, ?_, ?_, ?_, ?_, ?_, ?_⟩
  · rw[hE100]
  all_goals (first|omega|(simp only[hE100];omega)|(simp[hE100];done))
 have hV:=M.a8u (g:=c1a) (t:=line) h0 (by have h9:=h10;simp at h9;exact h9.1) (by have h9:=h10;simp at h9;exact h9.2)
 refine Js.skip<|Js.seq ?_
 refine zdr [12] ?_
 refine jM 0 rfl rfl ?_
 refine jM 1 rfl rfl ?_
 refine jN 2 rfl rfl ?_
 refine jF 3 a4e rfl rfl ?_
 refine jF 4 a1u rfl rfl ?_
 refine JH.q 5 rfl (L9 3 rfl rfl) ?_
 refine JH.q 6 rfl (L9 0 rfl rfl) ?_
 refine JH.q 7 rfl (L9 0 rfl rfl) ?_
 refine y1 8 ?_
 refine yc rfl rfl (λw hw=>zq6 ((M.readP c1a.rules ((M.cutS line ([32]:List UInt8)).2.1)).1) (ok_ hw)) ?_
 intro A12 c12 bl12 bh12 A13 c13 bl13 bh13
 refine JH.p 9 rfl (q_bld) ?_
 refine jN 10 rfl rfl ?_
 refine jF 11 a4e rfl rfl ?_
 refine y1 12 ?_
 refine yst rfl rfl rfl ?_
 refine yd ?_
 refine zS<|Qa rfl<|JL.nil ?_
 refine Js.conv (λw hw=>St.nilRow 2 hw) ?_
 refine zrb [6,5,4,0,1,0] hb (Up.refl _ _) ?_
 have hE:(.int .i64 0:Value)=.int .i64 ((M.headI c1a at_ line).2):=rp_ hV
 have hE100:((M.headI c1a at_ line).1).rules=c1a.rules:=rp_ hV
 have hE110:((M.headI c1a at_ line).1).start=((M.readP c1a.rules ((M.cutS line ([32]:List UInt8)).2.1)).1):=rp_ hV
 have hN1:(((M.headI c1a at_ line).1).moves).length=([]:List Int).length:=rp_ hV
 have hE1:((M.headI c1a at_ line).1).moves=([]:List Int):=rp_ hV
 have hE117:((M.headI c1a at_ line).1).now=((M.readP c1a.rules ((M.cutS line ([32]:List UInt8)).2.1)).1):=rp_ hV
 have hE2:((M.headI c1a at_ line).1).resigned=(-1):=rp_ hV
 refine⟨A7,c7,[],A8,c8,[],none,0,[],A12,c12,[],A13,c13,[],hE, ?_, ?_, ?_, ?_, ?_, ?_, ?_, ?_, ?_, ?_, ?_⟩
 · first|(rw[hE100,hE110,hN1,hE1,hE117,hE2];done)|(rw[hE100,hE110,hN1,hE1,hE117,hE2];rfl)
 all_goals (first|omega|(simp only[hE100,hE110,hN1,hE1,hE117,hE2];omega)|(simp[hE100,hE110,hN1,hE1,hE117,hE2];done))
theorem zq113(c1a:M.Gam){Ax_9:Option Addr}{cx_9:Nat}{gx_9:List Nat}{Ax_10:Option Addr}{cx_10:Nat}{gx_10:List Nat}{Ax_12:Option Addr}{cx_12:Nat}{gx_12:List Nat}{Ax_13:Option Addr}{cx_13:Nat}{gx_13:List Nat}{Ax_14:Option Addr}{cx_14:Nat}{gx_14:List Nat}(line:List UInt8){bx:Nat}{w:World}(hb:Bw w [boxO bx [.int .i64 c1a.rules.pits,.int .i64 c1a.rules.seeds,.bool c1a.rules.stores,.bool c1a.rules.skip,.bool c1a.rules.relay,.bool c1a.rules.feed,.bool c1a.rules.again,.int .i64 c1a.rules.capture,.int .i64 c1a.rules.slam,.slice Ax_9 c1a.start.pits.length cx_9,.slice Ax_10 c1a.start.stores.length cx_10,.int .i64 c1a.start.player,.slice Ax_12 c1a.moves.length cx_12,.slice Ax_13 c1a.now.pits.length cx_13,.slice Ax_14 c1a.now.stores.length cx_14,.int .i64 c1a.now.player,.int .i64 c1a.resigned] 157,rowO 2 1 (.slice Ax_9 c1a.start.pits.length cx_9) c1a.start.pits.length (ints_ c1a.start.pits) gx_9,rowO 2 1 (.slice Ax_10 c1a.start.stores.length cx_10) c1a.start.stores.length (ints_ c1a.start.stores) gx_10,rowO 2 1 (.slice Ax_12 c1a.moves.length cx_12) c1a.moves.length (ints_ c1a.moves) gx_12,rowO 2 1 (.slice Ax_13 c1a.now.pits.length cx_13) c1a.now.pits.length (ints_ c1a.now.pits) gx_13,rowO 2 1 (.slice Ax_14 c1a.now.stores.length cx_14) c1a.now.stores.length (ints_ c1a.now.stores) gx_14])(h_tab:tabT.ok (offW w (([boxO bx [.int .i64 c1a.rules.pits,.int .i64 c1a.rules.seeds,.bool c1a.rules.stores,.bool c1a.rules.skip,.bool c1a.rules.relay,.bool c1a.rules.feed,.bool c1a.rules.again,.int .i64 c1a.rules.capture,.int .i64 c1a.rules.slam,.slice Ax_9 c1a.start.pits.length cx_9,.slice Ax_10 c1a.start.stores.length cx_10,.int .i64 c1a.start.player,.slice Ax_12 c1a.moves.length cx_12,.slice Ax_13 c1a.now.pits.length cx_13,.slice Ax_14 c1a.now.stores.length cx_14,.int .i64 c1a.now.player,.int .i64 c1a.resigned] 157,rowO 2 1 (.slice Ax_9 c1a.start.pits.length cx_9) c1a.start.pits.length (ints_ c1a.start.pits) gx_9,rowO 2 1 (.slice Ax_10 c1a.start.stores.length cx_10) c1a.start.stores.length (ints_ c1a.start.stores) gx_10,rowO 2 1 (.slice Ax_12 c1a.moves.length cx_12) c1a.moves.length (ints_ c1a.moves) gx_12,rowO 2 1 (.slice Ax_13 c1a.now.pits.length cx_13) c1a.now.pits.length (ints_ c1a.now.pits) gx_13,rowO 2 1 (.slice Ax_14 c1a.now.stores.length cx_14) c1a.now.stores.length (ints_ c1a.now.stores) gx_14]:List Own).flatMap (·.fp))) undef)(bd0:c1a.start.pits.length<=cx_9:=by exact om_)(bd1:cx_9<=9223372036854775807:=by exact om_)(bd2:c1a.start.stores.length<=cx_10:=by exact om_)(bd3:cx_10<=9223372036854775807:=by exact om_)(bd4:c1a.moves.length<=cx_12:=by exact om_)(bd5:cx_12<=9223372036854775807:=by exact om_)(bd6:c1a.now.pits.length<=cx_13:=by exact om_)(bd7:cx_13<=9223372036854775807:=by exact om_)(bd8:c1a.now.stores.length<=cx_14:=by exact om_)(bd9:cx_14<=9223372036854775807:=by exact om_)(r0:c1a.start.pits.length<=1000:=by exact om_)(r1:c1a.start.stores.length<=1000:=by exact om_)(r2:c1a.moves.length<=1000:=by exact om_)(r3:c1a.now.pits.length<=1000:=by exact om_)(r4:c1a.now.stores.length<=1000:=by exact om_)(r5:line.length<=100000:=by exact om_):RetB Tryz.prog 120 [.pointer (some ⟨bx,0,none⟩),.string (sB line)] w [boxO bx [.int .i64 c1a.rules.pits,.int .i64 c1a.rules.seeds,.bool c1a.rules.stores,.bool c1a.rules.skip,.bool c1a.rules.relay,.bool c1a.rules.feed,.bool c1a.rules.again,.int .i64 c1a.rules.capture,.int .i64 c1a.rules.slam,.slice Ax_9 c1a.start.pits.length cx_9,.slice Ax_10 c1a.start.stores.length cx_10,.int .i64 c1a.start.player,.slice Ax_12 c1a.moves.length cx_12,.slice Ax_13 c1a.now.pits.length cx_13,.slice Ax_14 c1a.now.stores.length cx_14,.int .i64 c1a.now.player,.int .i64 c1a.resigned] 157,rowO 2 1 (.slice Ax_9 c1a.start.pits.length cx_9) c1a.start.pits.length (ints_ c1a.start.pits) gx_9,rowO 2 1 (.slice Ax_10 c1a.start.stores.length cx_10) c1a.start.stores.length (ints_ c1a.start.stores) gx_10,rowO 2 1 (.slice Ax_12 c1a.moves.length cx_12) c1a.moves.length (ints_ c1a.moves) gx_12,rowO 2 1 (.slice Ax_13 c1a.now.pits.length cx_13) c1a.now.pits.length (ints_ c1a.now.pits) gx_13,rowO 2 1 (.slice Ax_14 c1a.now.stores.length cx_14) c1a.now.stores.length (ints_ c1a.now.stores) gx_14] (λv bs'=>∃ (Axx_9:Option Addr) (cxx_9:Nat) (gxx_9:List Nat) (Axx_10:Option Addr) (cxx_10:Nat) (gxx_10:List Nat) (Axx_12:Option Addr) (cxx_12:Nat) (gxx_12:List Nat) (Axx_13:Option Addr) (cxx_13:Nat) (gxx_13:List Nat) (Axx_14:Option Addr) (cxx_14:Nat) (gxx_14:List Nat),v=.int .i64 ((M.lineI c1a line).2)/\bs'=[boxO bx [.int .i64 ((((M.lineI c1a line).1).rules).pits),.int .i64 ((((M.lineI c1a line).1).rules).seeds),.bool ((((M.lineI c1a line).1).rules).stores),.bool ((((M.lineI c1a line).1).rules).skip),.bool ((((M.lineI c1a line).1).rules).relay),.bool ((((M.lineI c1a line).1).rules).feed),.bool ((((M.lineI c1a line).1).rules).again),.int .i64 ((((M.lineI c1a line).1).rules).capture),.int .i64 ((((M.lineI c1a line).1).rules).slam),.slice Axx_9 (((((M.lineI c1a line).1).start).pits).length) cxx_9,.slice Axx_10 (((((M.lineI c1a line).1).start).stores).length) cxx_10,.int .i64 ((((M.lineI c1a line).1).start).player),.slice Axx_12 ((((M.lineI c1a line).1).moves).length) cxx_12,.slice Axx_13 (((((M.lineI c1a line).1).now).pits).length) cxx_13,.slice Axx_14 (((((M.lineI c1a line).1).now).stores).length) cxx_14,.int .i64 ((((M.lineI c1a line).1).now).player),.int .i64 (((M.lineI c1a line).1).resigned)] 157,rowO 2 1 (.slice Axx_9 (((((M.lineI c1a line).1).start).pits).length) cxx_9) (((((M.lineI c1a line).1).start).pits).length) (ints_ ((((M.lineI c1a line).1).start).pits)) gxx_9,rowO 2 1 (.slice Axx_10 (((((M.lineI c1a line).1).start).stores).length) cxx_10) (((((M.lineI c1a line).1).start).stores).length) (ints_ ((((M.lineI c1a line).1).start).stores)) gxx_10,rowO 2 1 (.slice Axx_12 ((((M.lineI c1a line).1).moves).length) cxx_12) ((((M.lineI c1a line).1).moves).length) (ints_ (((M.lineI c1a line).1).moves)) gxx_12,rowO 2 1 (.slice Axx_13 (((((M.lineI c1a line).1).now).pits).length) cxx_13) (((((M.lineI c1a line).1).now).pits).length) (ints_ ((((M.lineI c1a line).1).now).pits)) gxx_13,rowO 2 1 (.slice Axx_14 (((((M.lineI c1a line).1).now).stores).length) cxx_14) (((((M.lineI c1a line).1).now).stores).length) (ints_ ((((M.lineI c1a line).1).now).stores)) gxx_14]/\((((M.lineI c1a line).1).start).pits).length<=cxx_9/\cxx_9<=9223372036854775807/\((((M.lineI c1a line).1).start).stores).length<=cxx_10/\cxx_10<=9223372036854775807/\(((M.lineI c1a line).1).moves).length<=cxx_12/\cxx_12<=9223372036854775807/\((((M.lineI c1a line).1).now).pits).length<=cxx_13/\cxx_13<=9223372036854775807/\((((M.lineI c1a line).1).now).stores).length<=cxx_14/\cxx_14<=9223372036854775807):=by
 refine enterB hb @Tryz.func120 @Tryz.ntmps120 rfl rfl ?_
 refine zent ?_
 refine Js.trashE ?_
 refine zn ?_
 refine zS<|Qa rfl<|zJ<|zS<|Qm rfl<|Qc rfl<|Qf fh rfl<|Qf fh rfl<|Q0 0 rfl rfl rfl<|Qh rfl rfl<|JL.nil ?_
 refine zi (λh1 h1'=>?_) λh1 h1'=>?_
 ·have hV:=M.b2p (t:=line) (by simpa using h1)
  refine zS<|Qa rfl<|JL.nil ?_
  refine zrb [0,0,0,0,0,0] hb (Up.refl _ _) ?_
  have hE:(.int .i64 7:Value)=.int .i64 ((M.lineI c1a line).2):=by first|(rw[hV];done)|(rw[hV];rfl)|(rw[hV];simp_all[M.res0,M.res1,M.resG];done)
  have hE100:(M.lineI c1a line).1=c1a:=by first|(rw[hV];done)|(rw[hV];rfl)|(rw[hV];simp_all[M.res0,M.res1,M.resG];done)
  refine⟨Ax_9,cx_9,gx_9,Ax_10,cx_10,gx_10,Ax_12,cx_12,gx_12,Ax_13,cx_13,gx_13,Ax_14,cx_14,gx_14,hE, ?_, ?_, ?_, ?_, ?_, ?_, ?_, ?_, ?_, ?_, ?_⟩
  · rw[hE100]
  all_goals (first|omega|(simp only[hE100];omega)|(simp[hE100];done))
 have n7:¬ 0<=c1a.resigned:=by simpa using h1
 refine Js.skip<|Js.seq<|zS<|Qm rfl<|Qq (a0w und_9 rfl rfl)<|Qm rfl<|zg (Gd.f1 rfl rfl rfl) (λhc=>a0e rfl)<|zg (Gd.f1 rfl rfl rfl) (λhc=>a0w und_9 (gh hc rfl) rfl)<|Qq (a0j rfl rfl rfl)<|JL.nil ?_
 refine zi (λh2 h2'=>?_) λh2 h2'=>?_
 ·have hr:line=M.res0\/line=M.res1:=by have h9:=h2;simpa[M.res0,M.res1] using h9
  have hll:line.length=9:=by rcases hr with h|h <;> (rw[h];rfl)
  have hbv:IntKind.u8.wrap (M.bat line (((line.length:Int) - 1).toNat) - 48)=0\/IntKind.u8.wrap (M.bat line (((line.length:Int) - 1).toNat) - 48)=1:=by rcases hr with h|h <;> rw[h] <;> decide
  have hV:M.lineI c1a line=(M.resG c1a (IntKind.u8.wrap (M.bat line (((line.length:Int) - 1).toNat) - 48)),0):=by rcases hr with h|h;(rw[M.a9e n7 h,h];rfl);(rw[M.a8x n7 h,h];rfl)
  have hbt3:=M.a3b line (((line.length:Int) - 1).toNat)
  refine zS<|Qm rfl<|Qm rfl<|Qm rfl<|Qq (a0t und_9 rfl)<|Qs rfl rfl<|Qq (a1w (i:=((line.length:Int) - 1).toNat) und_9 rfl (by rw[Int.toNat_of_nonneg (by omega)];exact rfl) (by omega))<|Qq (p_sub rfl rfl rfl)<|Qq (a4u @Tryz.underlying5 @Tryz.underlying2 rfl (IntWalk.i64_in _ (by omega)))<|Qc rfl<|Qf fh rfl<|Qf fh rfl<|zw 0 rfl rfl rfl ?_
  refine zN<|Qa rfl<|JL.nil ?_
  refine zrb [0,0,0,0,0,0] hb (Up.refl _ _) ?_
  have hE:(.int .i64 0:Value)=.int .i64 ((M.lineI c1a line).2):=by first|(rw[hV];done)|(rw[hV];rfl)|(rw[hV];simp_all[M.res0,M.res1,M.resG];done)
  have hE100:((M.lineI c1a line).1).rules=c1a.rules:=by first|(rw[hV];done)|(rw[hV];rfl)|(rw[hV];simp_all[M.res0,M.res1,M.resG];done)
  have hE110:((M.lineI c1a line).1).start=c1a.start:=by first|(rw[hV];done)|(rw[hV];rfl)|(rw[hV];simp_all[M.res0,M.res1,M.resG];done)
  have hN1:(((M.lineI c1a line).1).moves).length=c1a.moves.length:=rp_ hV
  have hE1:((M.lineI c1a line).1).moves=c1a.moves:=by first|(rw[hV];done)|(rw[hV];rfl)|(rw[hV];simp_all[M.res0,M.res1,M.resG];done)
  have hE117:((M.lineI c1a line).1).now=c1a.now:=by first|(rw[hV];done)|(rw[hV];rfl)|(rw[hV];simp_all[M.res0,M.res1,M.resG];done)
  have hE2:((M.lineI c1a line).1).resigned=(IntKind.u8.wrap ((M.bat line (((line.length:Int) - 1).toNat)) - 48)):=by first|(rw[hV];done)|(rw[hV];rfl)|(rw[hV];simp_all[M.res0,M.res1,M.resG];done)
  refine⟨Ax_9,cx_9,gx_9,Ax_10,cx_10,gx_10,Ax_12,cx_12,gx_12,Ax_13,cx_13,gx_13,Ax_14,cx_14,gx_14,hE, ?_, ?_, ?_, ?_, ?_, ?_, ?_, ?_, ?_, ?_, ?_⟩
  · rw[hE100,hE110,hN1,hE1,hE117,hE2]
  all_goals (first|omega|(simp only[hE100,hE110,hN1,hE1,hE117,hE2];omega)|(simp[hE100,hE110,hN1,hE1,hE117,hE2];done))
 have hr:¬ line=M.res0/\¬ line=M.res1:=by have h9:=h2;simpa[M.res0,M.res1] using h9
 obtain⟨n0,n1⟩:=hr
 have hlw:=M.nextR_law c1a line
 refine Js.skip<|zS<|Qm rfl<|zp rfl (λw hw=>zq111 line (ok_ hw)) ?_
 intro u4 x4
 refine Qm rfl<|Qx rfl rfl<|Qx rfl rfl<|za zeh λb5=>zw 0 rfl rfl rfl ?_
 refine Qa rfl<|zJ<|zS<|Qm rfl<|Qt rfl<|JL.nil ?_
 refine zi (λh6 h6'=>?_) λh6 h6'=>?_
 ·have hN:=M.b0q (g:=c1a) (x:=(M.numI line)) (by simpa using h6)
  rw[hlw] at hN
  have hV:M.lineI c1a line=(c1a,3):=by rw[M.a4t n7 n0 n1 (by rw[hN];decide),hN]
  refine zS<|Qa rfl<|JL.nil ?_
  refine zf [1,1,1,1,1,1] λGG7=>?_
  refine zn ?_
  refine zrb [0,0,0,0,0,0] hb x4 ?_
  have hE:(.int .i64 3:Value)=.int .i64 ((M.lineI c1a line).2):=by first|(rw[hV];done)|(rw[hV];rfl)|(rw[hV];simp_all[M.res0,M.res1,M.resG];done)
  have hE100:(M.lineI c1a line).1=c1a:=by first|(rw[hV];done)|(rw[hV];rfl)|(rw[hV];simp_all[M.res0,M.res1,M.resG];done)
  refine⟨Ax_9,cx_9,gx_9,Ax_10,cx_10,gx_10,Ax_12,cx_12,gx_12,Ax_13,cx_13,gx_13,Ax_14,cx_14,gx_14,hE, ?_, ?_, ?_, ?_, ?_, ?_, ?_, ?_, ?_, ?_, ?_⟩
  · rw[hE100]
  all_goals (first|omega|(simp only[hE100];omega)|(simp[hE100];done))
 have c1:(M.numI line).2=true:=by simpa using h6
 refine Js.skip<|Js.seq<|Js.seq ?_
 refine zdr [] ?_
 refine JH.p 0 rfl (a2u (kk:=0) ArrI.h rfl rfl rfl (by decide) rfl) ?_
 refine jB 1 0 ty_2 rfl rfl rfl rfl ?_
 refine jM 2 rfl rfl ?_
 refine jN 3 rfl rfl ?_
 refine jF 4 a4e rfl rfl ?_
 refine jF 5 a0x rfl rfl ?_
 refine jB 6 1 ty_26 rfl rfl rfl rfl ?_
 refine JH.p 7 rfl (p_len el_26 rfl) ?_
 refine JH.p 8 rfl (p_add rfl rfl (IntWalk.i64_in _ (by omega))) ?_
 refine JH.p 9 rfl (p_neq rfl rfl) ?_
 refine yd ?_
 refine zi (λh8 h8'=>?_) λh8 h8'=>?_
 ·have hN:=M.nextR_4 (g:=c1a) c1 (by simpa using h8)
  rw[hlw] at hN
  have hV:M.lineI c1a line=(c1a,4):=by rw[M.a4t n7 n0 n1 (by rw[hN];decide),hN]
  refine zS<|Qa rfl<|JL.nil ?_
  refine zf [1,1,1,1,1,1] λGG9=>?_
  refine zn ?_
  refine zrb [0,0,0,0,0,0] hb x4 ?_
  have hE:(.int .i64 4:Value)=.int .i64 ((M.lineI c1a line).2):=by first|(rw[hV];done)|(rw[hV];rfl)|(rw[hV];simp_all[M.res0,M.res1,M.resG];done)
  have hE100:(M.lineI c1a line).1=c1a:=by first|(rw[hV];done)|(rw[hV];rfl)|(rw[hV];simp_all[M.res0,M.res1,M.resG];done)
  refine⟨Ax_9,cx_9,gx_9,Ax_10,cx_10,gx_10,Ax_12,cx_12,gx_12,Ax_13,cx_13,gx_13,Ax_14,cx_14,gx_14,hE, ?_, ?_, ?_, ?_, ?_, ?_, ?_, ?_, ?_, ?_, ?_⟩
  · rw[hE100]
  all_goals (first|omega|(simp only[hE100];omega)|(simp[hE100];done))
 have c2:(M.numI line).1.1=(c1a.moves.length:Int) + 1:=by simpa using h8
 refine Js.skip<|Js.seq ?_
 refine zk [0,5] (λF U l os u=>∃ (b17:Nat) (A12:Option Addr) (c12:Nat) (A13:Option Addr) (c13:Nat) (A14:Option Addr) (c14:Nat) (A15:Option Addr) (c15:Nat) (A16:Option Addr) (c16:Nat),l=F [(7,.pointer (some ⟨b17,0,none⟩)),(8,.int .i64 ((M.play c1a ((M.numI line).1.2.1)).2))]/\os=[boxO b17 [.int .i64 ((((M.play c1a ((M.numI line).1.2.1)).1).rules).pits),.int .i64 ((((M.play c1a ((M.numI line).1.2.1)).1).rules).seeds),.bool ((((M.play c1a ((M.numI line).1.2.1)).1).rules).stores),.bool ((((M.play c1a ((M.numI line).1.2.1)).1).rules).skip),.bool ((((M.play c1a ((M.numI line).1.2.1)).1).rules).relay),.bool ((((M.play c1a ((M.numI line).1.2.1)).1).rules).feed),.bool ((((M.play c1a ((M.numI line).1.2.1)).1).rules).again),.int .i64 ((((M.play c1a ((M.numI line).1.2.1)).1).rules).capture),.int .i64 ((((M.play c1a ((M.numI line).1.2.1)).1).rules).slam),.slice A12 (((((M.play c1a ((M.numI line).1.2.1)).1).start).pits).length) c12,.slice A13 (((((M.play c1a ((M.numI line).1.2.1)).1).start).stores).length) c13,.int .i64 ((((M.play c1a ((M.numI line).1.2.1)).1).start).player),.slice A14 ((((M.play c1a ((M.numI line).1.2.1)).1).moves).length) c14,.slice A15 (((((M.play c1a ((M.numI line).1.2.1)).1).now).pits).length) c15,.slice A16 (((((M.play c1a ((M.numI line).1.2.1)).1).now).stores).length) c16,.int .i64 ((((M.play c1a ((M.numI line).1.2.1)).1).now).player),.int .i64 (((M.play c1a ((M.numI line).1.2.1)).1).resigned)] 53,rowO 2 1 (.slice A16 (((((M.play c1a ((M.numI line).1.2.1)).1).now).stores).length) c16) (((((M.play c1a ((M.numI line).1.2.1)).1).now).stores).length) (ints_ ((((M.play c1a ((M.numI line).1.2.1)).1).now).stores)) [],rowO 2 1 (.slice A15 (((((M.play c1a ((M.numI line).1.2.1)).1).now).pits).length) c15) (((((M.play c1a ((M.numI line).1.2.1)).1).now).pits).length) (ints_ ((((M.play c1a ((M.numI line).1.2.1)).1).now).pits)) [],rowO 2 1 (.slice A14 ((((M.play c1a ((M.numI line).1.2.1)).1).moves).length) c14) ((((M.play c1a ((M.numI line).1.2.1)).1).moves).length) (ints_ (((M.play c1a ((M.numI line).1.2.1)).1).moves)) [],rowO 2 1 (.slice A13 (((((M.play c1a ((M.numI line).1.2.1)).1).start).stores).length) c13) (((((M.play c1a ((M.numI line).1.2.1)).1).start).stores).length) (ints_ ((((M.play c1a ((M.numI line).1.2.1)).1).start).stores)) [],rowO 2 1 (.slice A12 (((((M.play c1a ((M.numI line).1.2.1)).1).start).pits).length) c12) (((((M.play c1a ((M.numI line).1.2.1)).1).start).pits).length) (ints_ ((((M.play c1a ((M.numI line).1.2.1)).1).start).pits)) []]++U []/\(((((M.play c1a ((M.numI line).1.2.1)).1).start).pits).length<=c12)/\(c12<=9223372036854775807)/\(((((M.play c1a ((M.numI line).1.2.1)).1).start).stores).length<=c13)/\(c13<=9223372036854775807)/\((((M.play c1a ((M.numI line).1.2.1)).1).moves).length<=c14)/\(c14<=9223372036854775807)/\(((((M.play c1a ((M.numI line).1.2.1)).1).now).pits).length<=c15)/\(c15<=9223372036854775807)/\(((((M.play c1a ((M.numI line).1.2.1)).1).now).stores).length<=c16)/\(c16<=9223372036854775807)) ?_ ?_
 ·refine zdr [11] ?_
  refine jM 0 rfl rfl ?_
  refine jN 1 rfl rfl ?_
  refine jF 2 a4e rfl rfl ?_
  refine JH.q 3 rfl (L9 1 rfl rfl) ?_
  refine JH.p 4 rfl (a2u (kk:=1) ArrI.h rfl rfl rfl (by decide) rfl) ?_
  refine jB 5 0 ty_2 rfl rfl rfl rfl ?_
  refine y2 6 10 ?_ ?_
  ·refine yc rfl rfl (λw hw=>zq59 c1a ((M.numI line).1.2.1) (ok_ hw)) ?_
   intro A29 c29 bl29 bh29 A30 c30 bl30 bh30 A31 c31 bl31 bh31 A32 c32 bl32 bh32 A33 c33 bl33 bh33
   refine jM 7 rfl rfl ?_
   refine JH.p 8 rfl (a0p rfl rfl) ?_
   refine JH.p 9 rfl (a0p rfl rfl) ?_
   refine y1 10 ?_
   refine ya rfl λb34=>?_
   refine y1 11 ?_
   refine yst rfl rfl rfl ?_
   refine jA 12 rfl rfl ?_
   refine yd ?_
   exact zm ⟨_,_,_,_,_,_,_,_,_,_,_,rfl,rfl,zt,zt,zt,zt,zt,zt,zt,zt,zt,zt⟩ (Up.refl _ _)
  refine ya rfl λb35=>?_
  refine y1 6 ?_
  refine yc rfl rfl (λw hw=>zq59 c1a ((M.numI line).1.2.1) (ok_ hw)) ?_
  intro A38 c38 bl38 bh38 A39 c39 bl39 bh39 A40 c40 bl40 bh40 A41 c41 bl41 bh41 A42 c42 bl42 bh42
  refine jM 7 rfl rfl ?_
  refine JH.p 8 rfl (a0p rfl rfl) ?_
  refine JH.p 9 rfl (a0p rfl rfl) ?_
  refine y1 11 ?_
  refine yst rfl rfl rfl ?_
  refine jA 12 rfl rfl ?_
  refine yd ?_
  refine zh [5,0,0,0,0,0,0,0,0,0,0,0,0,0] ?_
  exact zm ⟨_,_,_,_,_,_,_,_,_,_,_,rfl,rfl,zt,zt,zt,zt,zt,zt,zt,zt,zt,zt⟩ (Up.refl _ _)
 rintro _ _ u26 ⟨b17,A12,c12,A13,c13,A14,c14,A15,c15,A16,c16,rfl,rfl,f26_0,f26_1,f26_2,f26_3,f26_4,f26_5,f26_6,f26_7,f26_8,f26_9⟩ x26
 refine zn ?_
 refine Js.seq<|zS<|Qm rfl<|Qd rfl rfl<|JL.nil ?_
 refine zi (λh43 h43'=>?_) λh43 h43'=>?_
 ·have hN:=M.nextR_5 (g:=c1a) c1 c2 (by simpa using h43)
  rw[hlw] at hN
  have hV:M.lineI c1a line=(c1a,5):=by rw[M.a4t n7 n0 n1 (by rw[hN];decide),hN]
  refine zS<|Qa rfl<|JL.nil ?_
  refine zf [7,7,7,7,7,7] λGG44=>?_
  refine zn ?_
  refine zrb [0,0,0,0,0,0] hb (x4.trans x26) ?_
  have hE:(.int .i64 5:Value)=.int .i64 ((M.lineI c1a line).2):=by first|(rw[hV];done)|(rw[hV];rfl)|(rw[hV];simp_all[M.res0,M.res1,M.resG];done)
  have hE100:(M.lineI c1a line).1=c1a:=by first|(rw[hV];done)|(rw[hV];rfl)|(rw[hV];simp_all[M.res0,M.res1,M.resG];done)
  refine⟨Ax_9,cx_9,gx_9,Ax_10,cx_10,gx_10,Ax_12,cx_12,gx_12,Ax_13,cx_13,gx_13,Ax_14,cx_14,gx_14,hE, ?_, ?_, ?_, ?_, ?_, ?_, ?_, ?_, ?_, ?_, ?_⟩
  · rw[hE100]
  all_goals (first|omega|(simp only[hE100];omega)|(simp[hE100];done))
 have c3:(M.play c1a (M.numI line).1.2.1).2=0:=by simpa using h43
 refine Js.skip<|Js.seq ?_
 refine zk [0,5,7] (λF U l os u=>∃ (b48:Nat) (A46:Option Addr) (c46:Nat) (A47:Option Addr) (c47:Nat),l=F [(9,.pointer (some ⟨b48,0,none⟩))]/\os=[boxO b48 [.int .i64 (((M.make c1a.rules c1a.now ((M.numI line).1.2.1)).1).move),.int .i64 (((M.make c1a.rules c1a.now ((M.numI line).1.2.1)).1).gain),.bool (((M.make c1a.rules c1a.now ((M.numI line).1.2.1)).1).again),.slice A46 (((((M.make c1a.rules c1a.now ((M.numI line).1.2.1)).1).next).pits).length) c46,.slice A47 (((((M.make c1a.rules c1a.now ((M.numI line).1.2.1)).1).next).stores).length) c47,.int .i64 ((((M.make c1a.rules c1a.now ((M.numI line).1.2.1)).1).next).player)] 109]++U []/\(((((M.make c1a.rules c1a.now ((M.numI line).1.2.1)).1).next).pits).length<=c46)/\(c46<=9223372036854775807)/\((Ty.ints 2 ((((M.make c1a.rules c1a.now ((M.numI line).1.2.1)).1).next).pits)).ok u (.slice A46 (((((M.make c1a.rules c1a.now ((M.numI line).1.2.1)).1).next).pits).length) c46))/\(((((M.make c1a.rules c1a.now ((M.numI line).1.2.1)).1).next).stores).length<=c47)/\(c47<=9223372036854775807)/\((Ty.ints 2 ((((M.make c1a.rules c1a.now ((M.numI line).1.2.1)).1).next).stores)).ok u (.slice A47 (((((M.make c1a.rules c1a.now ((M.numI line).1.2.1)).1).next).stores).length) c47))) ?_ ?_
 ·refine zdr [17] ?_
  refine jM 0 rfl rfl ?_
  refine jN 1 rfl rfl ?_
  refine jF 2 a4e rfl rfl ?_
  refine jF 3 a1u rfl rfl ?_
  refine JH.q 4 rfl (L9 7 rfl rfl) ?_
  refine jM 5 rfl rfl ?_
  refine jN 6 rfl rfl ?_
  refine jF 7 a4e rfl rfl ?_
  refine jF 8 a1r rfl rfl ?_
  refine JH.q 9 rfl (L9 7 rfl rfl) ?_
  refine JH.p 10 rfl (a2u (kk:=1) ArrI.h rfl rfl rfl (by decide) rfl) ?_
  refine jB 11 6 ty_2 rfl rfl rfl rfl ?_
  refine y2 12 16 ?_ ?_
  ·refine yp rfl rfl (λw hw=>zq22 c1a.rules c1a.now ((M.numI line).1.2.1) (ok_ hw) (ok_ hw)) ?_
   intro u54 x54 A55 c55 h55 bl55 bh55 A56 c56 h56 bl56 bh56
   refine jM 13 rfl rfl ?_
   refine JH.p 14 rfl (a0p rfl rfl) ?_
   refine JH.p 15 rfl (a0p rfl rfl) ?_
   refine y1 16 ?_
   refine ya rfl λb57=>?_
   refine y1 17 ?_
   refine yst rfl rfl rfl ?_
   refine jA 18 rfl rfl ?_
   refine yd ?_
   exact zm ⟨_,_,_,_,_,rfl,rfl,zt,zt,h55,zt,zt,h56⟩ x54
  refine ya rfl λb58=>?_
  refine y1 12 ?_
  refine yp rfl rfl (λw hw=>zq22 c1a.rules c1a.now ((M.numI line).1.2.1) (ok_ hw) (ok_ hw)) ?_
  intro u59 x59 A60 c60 h60 bl60 bh60 A61 c61 h61 bl61 bh61
  refine jM 13 rfl rfl ?_
  refine JH.p 14 rfl (a0p rfl rfl) ?_
  refine JH.p 15 rfl (a0p rfl rfl) ?_
  refine y1 17 ?_
  refine yst rfl rfl rfl ?_
  refine jA 18 rfl rfl ?_
  refine yd ?_
  exact zm ⟨_,_,_,_,_,rfl,rfl,zt,zt,h60,zt,zt,h61⟩ x59
 rintro _ _ u53 ⟨b48,A46,c46,A47,c47,rfl,rfl,f53_0,f53_1,f53_2,f53_3,f53_4,f53_5⟩ x53
 refine zn ?_
 refine Js.seq<|zS<|Qf fh rfl<|Q0 0 rfl rfl rfl<|Qq (a2u (kk:=2) ArrI.h rfl rfl rfl (by decide) rfl)<|Q0 7 rfl rfl rfl<|Qd rfl rfl<|JL.nil ?_
 refine zf [1,1,1,1,1,1,2,2,2,2,2,2] λGG62=>?_
 refine zn ?_
 refine zi (λh63 h63'=>?_) λh63 h63'=>?_
 ·have hN:=M.b7a (g:=c1a) c1 c2 c3 (by simpa using h63)
  rw[hlw] at hN
  have hV:M.lineI c1a line=(c1a,6):=by rw[M.a4t n7 n0 n1 (by rw[hN];decide),hN]
  refine zS<|Qa rfl<|JL.nil ?_
  refine zf [6,6,6,6,6,6] λGG64=>?_
  refine zn ?_
  refine zrb [0,0,0,0,0,0] hb ((x4.trans x26).trans x53) ?_
  have hE:(.int .i64 6:Value)=.int .i64 ((M.lineI c1a line).2):=by first|(rw[hV];done)|(rw[hV];rfl)|(rw[hV];simp_all[M.res0,M.res1,M.resG];done)
  have hE100:(M.lineI c1a line).1=c1a:=by first|(rw[hV];done)|(rw[hV];rfl)|(rw[hV];simp_all[M.res0,M.res1,M.resG];done)
  refine⟨Ax_9,cx_9,gx_9,Ax_10,cx_10,gx_10,Ax_12,cx_12,gx_12,Ax_13,cx_13,gx_13,Ax_14,cx_14,gx_14,hE, ?_, ?_, ?_, ?_, ?_, ?_, ?_, ?_, ?_, ?_, ?_⟩
  · rw[hE100]
  all_goals (first|omega|(simp only[hE100];omega)|(simp[hE100];done))
 have hN:=M.b6k (g:=c1a) c1 c2 c3 (by simpa using h63)
 rw[hlw] at hN
 have hV:M.lineI c1a line=((M.play c1a (M.numI line).1.2.1).1,0):=by rw[M.a9t n7 n0 n1 (by rw[hN]),hN]
 refine Js.skip<|zS<|Qm rfl<|Q9 0 rfl rfl ?_
 refine Qc rfl<|Qf fh rfl<|zw 6 rfl rfl rfl ?_
 refine JL.nil ?_
 refine zf [1,1,1,1,1,1] λGG65=>?_
 refine zn ?_
 refine zS<|Qa rfl<|JL.nil ?_
 refine zrb [5,4,3,2,1,0] hb ((x4.trans x26).trans x53) ?_
 have hE:(.int .i64 0:Value)=.int .i64 ((M.lineI c1a line).2):=by first|(rw[hV];done)|(rw[hV];rfl)|(rw[hV];simp_all[M.res0,M.res1,M.resG];done)
 have hE100:((M.lineI c1a line).1).rules=(((M.play c1a ((M.numI line).1.2.1)).1).rules):=by first|(rw[hV];done)|(rw[hV];rfl)|(rw[hV];simp_all[M.res0,M.res1,M.resG];done)
 have hE110:((M.lineI c1a line).1).start=(((M.play c1a ((M.numI line).1.2.1)).1).start):=by first|(rw[hV];done)|(rw[hV];rfl)|(rw[hV];simp_all[M.res0,M.res1,M.resG];done)
 have hN1:(((M.lineI c1a line).1).moves).length=(((M.play c1a ((M.numI line).1.2.1)).1).moves).length:=rp_ hV
 have hE1:((M.lineI c1a line).1).moves=(((M.play c1a ((M.numI line).1.2.1)).1).moves):=by first|(rw[hV];done)|(rw[hV];rfl)|(rw[hV];simp_all[M.res0,M.res1,M.resG];done)
 have hE117:((M.lineI c1a line).1).now=(((M.play c1a ((M.numI line).1.2.1)).1).now):=by first|(rw[hV];done)|(rw[hV];rfl)|(rw[hV];simp_all[M.res0,M.res1,M.resG];done)
 have hE2:((M.lineI c1a line).1).resigned=(((M.play c1a ((M.numI line).1.2.1)).1).resigned):=by first|(rw[hV];done)|(rw[hV];rfl)|(rw[hV];simp_all[M.res0,M.res1,M.resG];done)
 refine⟨A12,c12,[],A13,c13,[],A14,c14,[],A15,c15,[],A16,c16,[],hE, ?_, ?_, ?_, ?_, ?_, ?_, ?_, ?_, ?_, ?_, ?_⟩
 · rw[hE100,hE110,hN1,hE1,hE117,hE2]
 all_goals (first|omega|(simp only[hE100,hE110,hN1,hE1,hE117,hE2];omega)|(simp[hE100,hE110,hN1,hE1,hE117,hE2];done))
theorem zq60(s:List UInt8){w:World}(h_tab:tabT.ok w undef)(r0:s.length<=90000:=by exact om_):Ret Tryz.prog 61 [.string (sB s)] w (Ty.tup [Ty.agg (cGame ((M.chkW s).1)),Ty.int ((M.chkW s).2.1),Ty.int ((M.chkW s).2.2)]):=by
 refine enter @Tryz.func61 @Tryz.ntmps61 rfl rfl ?_
 refine zent ?_
 refine zS<|za zeh λb1=>Qa rfl<|Qa rfl<|zN<|Qb ?_
 refine zb rfl λb2=>Qa rfl<|zN<|zbs λb3=>?_
 refine Qa rfl<|Qa rfl<|zJ<|Js.block ?_
 refine zl [2,5] (λF U l os u m=>∃ (cur:List UInt8) (ee:Bool) (out:List (List UInt8)) (A5_6:Option Addr) (c5_6:Nat) (g5_6:List Nat),l=F [(0,.string (sB cur)),(6,.slice A5_6 out.length c5_6),(7,.bool ee)]/\os=U [some (rowO 9 1 (.slice A5_6 out.length c5_6) out.length (txs_ out) g5_6)]/\(M.LinI s cur out ee)/\(cur.length<=s.length)/\(out.length<=c5_6)/\(c5_6<=9223372036854775807)/\m=cur.length) ⟨s,true,[],_,_,_,rfl,rfl,by exact M.LinI.zero s,by exact Nat.le_refl _,zu,zu,rfl⟩ ?_
 rintro _ _ u5 _ ⟨cur,ee,out,A5_6,c5_6,g5_6,rfl,rfl,hL,hl,f5_2,f5_3,rfl⟩ x5
 refine zn ?_
 have hol:=hL.len
 have hcl:=M.a3c cur [10]
 refine Js.seq<|zS<|Qm rfl<|Qq (a2f und_9 rfl rfl)<|JL.nil ?_
 refine zi (λh6 h6'=>?_) λh6 h6'=>?_
 ·have hne:cur≠[]:=by simpa using h6
  have hcp:=List.length_pos_iff.2 hne
  refine Js.skip<|Js.block<|zS<|Qm rfl<|zv rfl (λw hw=>zq9 cur ([10]:List UInt8))<|Qm rfl<|Qx rfl rfl<|Qx rfl rfl<|Qx rfl rfl<|Qa rfl<|Qa rfl<|Qa rfl<|zJ<|zS ?_
  refine Qm rfl<|Qt rfl<|JL.nil ?_
  refine zi (λh7 h7'=>?_) λh7 h7'=>?_
  ·have hL2:=hL.last (by simpa using h7) hne
   refine zS<|Qa rfl<|zG<|Qa rfl<|zN<|Qm rfl<|Qm rfl<|zbs λb8=>?_
   refine JL.e (a0g (i:=1) (n':=(out++([(M.cutS cur ([10]:List UInt8)).1])).length) (vs':=txs_ (out++([(M.cutS cur ([10]:List UInt8)).1]))) el_31 rfl rfl rfl rfl (a0k (i:=0) a9z rfl rfl) (by omega) (by omega) ln2_ (by first|rfl|(simp[txs_];done))) ?_
   rintro v10 _ _ ⟨⟨g11,rfl⟩,rfl⟩ _
   refine JL.fact (row_form' (i:=1) rfl) (λhf12=>?_)
   obtain⟨A12,c12,rfl,bl12,bh12⟩:=hf12
   refine znl ?_
   refine Qa rfl<|zG<|Qm rfl<|Qa rfl<|JL.nil<|Js.blockEnd ?_
   refine zd [1,1,1] rfl λu13 x13=>?_
   exact zag ⟨([]:List UInt8),false,out++([(M.cutS cur ([10]:List UInt8)).1]),_,_,_,rfl,rfl,by exact hL2,by first|omega|exact Nat.zero_le _,zu,zu,rfl⟩ (x5.trans x13) (by omega)
  have hc9:(M.cutS cur [10]).2.2=true:=by simpa using h7
  have hL2:=hL.more hc9
  have hc8:=(M.b4n hc9).2.2
  refine Js.skip<|zS<|Qm rfl<|Qm rfl<|zbs λb14=>?_
  refine JL.e (a0g (i:=1) (n':=(out++([(M.cutS cur ([10]:List UInt8)).1])).length) (vs':=txs_ (out++([(M.cutS cur ([10]:List UInt8)).1]))) el_31 rfl rfl rfl rfl (a0k (i:=0) a9z rfl rfl) (by omega) (by omega) ln2_ (by first|rfl|(simp[txs_];done))) ?_
  rintro v16 _ _ ⟨⟨g17,rfl⟩,rfl⟩ _
  refine JL.fact (row_form' (i:=1) rfl) (λhf18=>?_)
  obtain⟨A18,c18,rfl,bl18,bh18⟩:=hf18
  refine znl ?_
  refine Qa rfl<|zG<|Qm rfl<|Qa rfl<|JL.nil<|Js.blockEnd ?_
  refine zd [1,1,1] rfl λu19 x19=>?_
  exact zag ⟨(M.cutS cur ([10]:List UInt8)).2.1,ee,out++([(M.cutS cur ([10]:List UInt8)).1]),_,_,_,rfl,rfl,by exact hL2,by first|omega|exact Nat.zero_le _,zu,zu,rfl⟩ (x5.trans x19) (by omega)
 have hcur:cur=[]:=by simpa using h6
 rw[hcur] at hL
 obtain⟨hout,hee⟩:=hL.done
 have hol:out.length<=s.length + 1:=by rw[hout];exact M.b8h s
 have hmem:=hL.mem
 refine zx ?_
 refine Js.seq<|zS<|Qa rfl<|JL.nil<|Js.block ?_
 refine Js.conv (λw hw=>St.nilRow 2 hw) ?_
 refine Js.conv (λw hw=>St.nilRow 2 hw) ?_
 refine Js.conv (λw hw=>St.nilRow 2 hw) ?_
 refine Js.conv (λw hw=>St.nilRow 2 hw) ?_
 refine Js.conv (λw hw=>St.nilRow 2 hw) ?_
 refine zl [2,5,6,7] (λF U l os u m=>∃ (k:Nat) (gk:M.Gam) (A20_5_9:Option Addr) (c20_5_9:Nat) (g20_5_9:List Nat) (A20_5_10:Option Addr) (c20_5_10:Nat) (g20_5_10:List Nat) (A20_5_12:Option Addr) (c20_5_12:Nat) (g20_5_12:List Nat) (A20_5_13:Option Addr) (c20_5_13:Nat) (g20_5_13:List Nat) (A20_5_14:Option Addr) (c20_5_14:Nat) (g20_5_14:List Nat),l=F [(11,.int .i64 (k:Int))]/\os=U [some (rowO 2 1 (.slice A20_5_14 gk.now.stores.length c20_5_14) gk.now.stores.length (ints_ gk.now.stores) g20_5_14),some (rowO 2 1 (.slice A20_5_13 gk.now.pits.length c20_5_13) gk.now.pits.length (ints_ gk.now.pits) g20_5_13),some (rowO 2 1 (.slice A20_5_12 gk.moves.length c20_5_12) gk.moves.length (ints_ gk.moves) g20_5_12),some (rowO 2 1 (.slice A20_5_10 gk.start.stores.length c20_5_10) gk.start.stores.length (ints_ gk.start.stores) g20_5_10),some (rowO 2 1 (.slice A20_5_9 gk.start.pits.length c20_5_9) gk.start.pits.length (ints_ gk.start.pits) g20_5_9),nO,some (boxO b2 [.int .i64 gk.rules.pits,.int .i64 gk.rules.seeds,.bool gk.rules.stores,.bool gk.rules.skip,.bool gk.rules.relay,.bool gk.rules.feed,.bool gk.rules.again,.int .i64 gk.rules.capture,.int .i64 gk.rules.slam,.slice A20_5_9 gk.start.pits.length c20_5_9,.slice A20_5_10 gk.start.stores.length c20_5_10,.int .i64 gk.start.player,.slice A20_5_12 gk.moves.length c20_5_12,.slice A20_5_13 gk.now.pits.length c20_5_13,.slice A20_5_14 gk.now.stores.length c20_5_14,.int .i64 gk.now.player,.int .i64 gk.resigned] 157)]/\(M.RecI s k gk)/\(k<=(max (M.recL s).length 2))/\(gk.start.pits.length<=c20_5_9)/\(c20_5_9<=9223372036854775807)/\(gk.start.stores.length<=c20_5_10)/\(c20_5_10<=9223372036854775807)/\(gk.moves.length<=c20_5_12)/\(c20_5_12<=9223372036854775807)/\(gk.now.pits.length<=c20_5_13)/\(c20_5_13<=9223372036854775807)/\(gk.now.stores.length<=c20_5_14)/\(c20_5_14<=9223372036854775807)/\m=(max (M.recL s).length 2) - k) ⟨0,M.Gam.zero,_,_,_,_,_,_,_,_,_,_,_,_,_,_,_,rfl,rfl,by exact M.RecI.zero s,by exact Nat.zero_le _,by first|omega|decide,by first|omega|decide,by first|omega|decide,by first|omega|decide,by first|omega|decide,by first|omega|decide,by first|omega|decide,by first|omega|decide,by first|omega|decide,by first|omega|decide,rfl⟩ ?_
 rintro _ _ u20 _ ⟨k,gk,A20_5_9,c20_5_9,g20_5_9,A20_5_10,c20_5_10,g20_5_10,A20_5_12,c20_5_12,g20_5_12,A20_5_13,c20_5_13,g20_5_13,A20_5_14,c20_5_14,g20_5_14,rfl,rfl,hR,hk,f20_2,f20_3,f20_4,f20_5,f20_6,f20_7,f20_8,f20_9,f20_10,f20_11,rfl⟩ x20
 refine zn ?_
 obtain⟨gb1,gb2,gb3,gb4,gb5⟩:=hR.bd
 refine Js.seq<|zS<|Qm rfl<|Qm rfl<|Qz rfl<|Qq (p_max rfl rfl)<|Ql rfl rfl<|JL.nil ?_
 refine zi (λh21 h21'=>?_) λh21 h21'=>?_
 ·have hk2:k < (max (M.recL s).length 2):=by have:=h21';rw[<- hout];omega
  refine Js.skip<|Js.seq<|Js.block<|zS<|Qa rfl<|zJ<|Js.block<|zS<|Qm rfl<|Qm rfl<|Qz rfl<|Qh rfl rfl<|Qa rfl<|JL.nil ?_
  refine zi (λh22 h22'=>?_) λh22 h22'=>?_
  ·have hb:M.base (M.recL s) gk k=(gk,1 + (k:Int)):=M.b3o (by rw[<- hout];omega)
   refine Js.region<|Qm rfl<|Qp rfl rfl<|Qa rfl<|JL.nil<|Js.blockEnd<|Js.seq<|zS<|Qm rfl<|Qe rfl rfl<|Qm rfl<|zg (Gd.t1 rfl rfl rfl) (λhc=>a0e rfl)<|zg (Gd.t1 rfl rfl rfl) (λhc=>a0e rfl)<|zg (Gd.t1 rfl rfl rfl) (λhc=>p_len el_31 (gh hc rfl)) ?_
   refine zg (Gd.t1 rfl rfl rfl) (λhc=>p_sub (gh hc rfl) rfl (IntWalk.i64_in _ (oh_ hc))) ?_
   refine zg (Gd.t1 rfl rfl rfl) (λhc=>p_eql (gh hc rfl) (gh hc rfl))<|Qq (a0d rfl rfl rfl)<|Qm rfl<|zg (Gd.t1 rfl rfl rfl) (λhc=>a0e rfl)<|zg (Gd.t1 rfl rfl rfl) (λhc=>p_not (gh hc rfl))<|Qq (a0d rfl rfl rfl)<|JL.nil ?_
   refine zi (λh23 h23'=>?_) λh23 h23'=>?_
   · exact absurd h23 (by simp;omega)
   have hf:=M.flt_b (e:=M.whole s) hb (fun ⟨d1,d2,d3⟩=>by have h9:=h23;rw[<- hee] at d3;rw[<- hout] at d2;simp[d1,d3] at h9;omega)
   refine Js.skip<|zS<|Qm rfl<|Qd rfl rfl<|JL.nil ?_
   refine zi (λh24 h24'=>?_) λh24 h24'=>?_
   ·have hE:=hR.bad hk2 hf (by simpa using h24)
    have hq0:0=(((M.chkW s).1).rules).pits:=rp_ hE
    have hq1:0=(((M.chkW s).1).rules).seeds:=rp_ hE
    have hq2:false=(((M.chkW s).1).rules).stores:=rp_ hE
    have hq3:false=(((M.chkW s).1).rules).skip:=rp_ hE
    have hq4:false=(((M.chkW s).1).rules).relay:=rp_ hE
    have hq5:false=(((M.chkW s).1).rules).feed:=rp_ hE
    have hq6:false=(((M.chkW s).1).rules).again:=rp_ hE
    have hq7:0=(((M.chkW s).1).rules).capture:=rp_ hE
    have hq8:0=(((M.chkW s).1).rules).slam:=rp_ hE
    have hq9:[]=(((M.chkW s).1).start).pits:=rp_ hE
    have hq10:[]=(((M.chkW s).1).start).stores:=rp_ hE
    have hq11:0=(((M.chkW s).1).start).player:=rp_ hE
    have hq12:[]=((M.chkW s).1).moves:=rp_ hE
    have hq13:[]=(((M.chkW s).1).now).pits:=rp_ hE
    have hq14:[]=(((M.chkW s).1).now).stores:=rp_ hE
    have hq15:0=(((M.chkW s).1).now).player:=rp_ hE
    have hq16:0=((M.chkW s).1).resigned:=rp_ hE
    have hq17:(k:Int)=(M.chkW s).2.1:=rp_ hE
    have hq18:(1 + (k:Int))=(M.chkW s).2.2:=rp_ hE
    refine zS<|Qb ?_
    refine Qm rfl<|Qm rfl<|zw 7 rfl rfl rfl ?_
    refine Qa rfl<|Qa rfl<|JL.nil ?_
    exact zro (x5.trans x20)
   have hR2:=hR.step hk2 hf (by simpa using h24)
   refine Js.skip<|Js.blockEnd<|Js.region<|Qm rfl<|Qp rfl rfl<|Qa rfl<|JL.nil ?_
   exact zag ⟨k + 1,gk,_,_,_,_,_,_,_,_,_,_,_,_,_,_,_,rfl,rfl,by exact hR2,zt,zu,zu,zu,zu,zu,zu,zu,zu,zu,zu,rfl⟩ x20
  refine zS<|Qm rfl<|Ql rfl rfl<|Qa rfl<|JL.nil ?_
  refine zi (λh25 h25'=>?_) λh25 h25'=>?_
  ·have hk9:k < 2:=by have:=h25';omega
   obtain⟨ye26,hye26⟩:∃ x,out[k]?=some x:=⟨_,List.getElem?_eq_getElem (by omega)⟩
   have hm9:=hmem _ (List.mem_of_getElem? hye26)
   have hb:M.base (M.recL s) gk k=M.headI gk (k:Int) ye26:=M.a8i (by rw[<- hout];exact hye26) hk9
   refine Js.region<|Qm rfl<|Qm rfl<|Qm rfl<|Qm rfl ?_
   refine JL.fact (a0s (i:=5) rfl (by omega)) (λhf28=>?_)
   obtain⟨b28,rfl⟩:=hf28
   have hye26:(out:List (List UInt8))[k]?=some ye26:=hye26
   refine Qq (a0a el_31 rfl rfl (by omega) (by omega) rfl)<|Qw (a0c ty_9.h rfl (Mem.row (i:=5) rfl (txs_get' (xs:=out) hye26))) ?_
   refine zhl [6,4,3,2,1,0] ?_
   refine zB 6 sp_ rfl (λw hb hw=>zq112 gk (k:Int) ye26 hb (ok_ hw)) ?_
   rintro _ _ G30 ⟨A30x_9,c30x_9,g30x_9,A30x_10,c30x_10,g30x_10,A30x_12,c30x_12,g30x_12,A30x_13,c30x_13,g30x_13,A30x_14,c30x_14,g30x_14,rfl,rfl,bl30_0,bl30_1,bl30_2,bl30_3,bl30_4,bl30_5,bl30_6,bl30_7,bl30_8,bl30_9⟩
   refine znl ?_
   refine Qa rfl<|JL.nil<|Js.blockEnd<|Js.seq<|zS<|Qm rfl<|Qe rfl rfl<|Qm rfl<|zg (Gd.t1 rfl rfl rfl) (λhc=>a0e rfl)<|zg (Gd.t1 rfl rfl rfl) (λhc=>a0e rfl)<|zg (Gd.t1 rfl rfl rfl) (λhc=>p_len el_31 (gh hc rfl))<|zg (Gd.t1 rfl rfl rfl) (λhc=>p_sub (gh hc rfl) rfl (IntWalk.i64_in _ (oh_ hc))) ?_
   refine zg (Gd.t1 rfl rfl rfl) (λhc=>p_eql (gh hc rfl) (gh hc rfl))<|Qq (a0d rfl rfl rfl)<|Qm rfl<|zg (Gd.t1 rfl rfl rfl) (λhc=>a0e rfl)<|zg (Gd.t1 rfl rfl rfl) (λhc=>p_not (gh hc rfl))<|Qq (a0d rfl rfl rfl)<|JL.nil ?_
   refine zi (λh31 h31'=>?_) λh31 h31'=>?_
   ·have hf:=M.flt_7 (e:=M.whole s) hb (by have h9:=h31;rw[<- hout,<- hee];simp at h9;exact⟨by first|exact h9.1.1|omega,by omega,h9.2⟩)
    have hE:=hR.bad hk2 hf (show ¬ (7:Int)=0 by decide)
    refine Js.region<|Qa rfl<|zN<|Qm rfl<|Qd rfl rfl<|JL.nil ?_
    refine Js.condT rfl (by decide) ?_
    have hq0:0=(((M.chkW s).1).rules).pits:=rp_ hE
    have hq1:0=(((M.chkW s).1).rules).seeds:=rp_ hE
    have hq2:false=(((M.chkW s).1).rules).stores:=rp_ hE
    have hq3:false=(((M.chkW s).1).rules).skip:=rp_ hE
    have hq4:false=(((M.chkW s).1).rules).relay:=rp_ hE
    have hq5:false=(((M.chkW s).1).rules).feed:=rp_ hE
    have hq6:false=(((M.chkW s).1).rules).again:=rp_ hE
    have hq7:0=(((M.chkW s).1).rules).capture:=rp_ hE
    have hq8:0=(((M.chkW s).1).rules).slam:=rp_ hE
    have hq9:[]=(((M.chkW s).1).start).pits:=rp_ hE
    have hq10:[]=(((M.chkW s).1).start).stores:=rp_ hE
    have hq11:0=(((M.chkW s).1).start).player:=rp_ hE
    have hq12:[]=((M.chkW s).1).moves:=rp_ hE
    have hq13:[]=(((M.chkW s).1).now).pits:=rp_ hE
    have hq14:[]=(((M.chkW s).1).now).stores:=rp_ hE
    have hq15:0=(((M.chkW s).1).now).player:=rp_ hE
    have hq16:0=((M.chkW s).1).resigned:=rp_ hE
    have hq17:(k:Int)=(M.chkW s).2.1:=rp_ hE
    have hq18:7=(M.chkW s).2.2:=rp_ hE
    refine zS<|Qb ?_
    refine Qm rfl<|Qm rfl<|zw 8 rfl rfl rfl ?_
    refine Qa rfl<|Qa rfl<|JL.nil ?_
    exact zro (x5.trans x20)
   have hf:=M.flt_b (e:=M.whole s) hb (fun ⟨d1,d2,d3⟩=>by have h9:=h31;rw[<- hee] at d3;rw[<- hout] at d2;simp[d1,d3] at h9;omega)
   refine Js.skip<|zS<|Qm rfl<|Qd rfl rfl<|JL.nil ?_
   refine zi (λh32 h32'=>?_) λh32 h32'=>?_
   ·have hE:=hR.bad hk2 hf (by simpa using h32)
    have hq0:0=(((M.chkW s).1).rules).pits:=rp_ hE
    have hq1:0=(((M.chkW s).1).rules).seeds:=rp_ hE
    have hq2:false=(((M.chkW s).1).rules).stores:=rp_ hE
    have hq3:false=(((M.chkW s).1).rules).skip:=rp_ hE
    have hq4:false=(((M.chkW s).1).rules).relay:=rp_ hE
    have hq5:false=(((M.chkW s).1).rules).feed:=rp_ hE
    have hq6:false=(((M.chkW s).1).rules).again:=rp_ hE
    have hq7:0=(((M.chkW s).1).rules).capture:=rp_ hE
    have hq8:0=(((M.chkW s).1).rules).slam:=rp_ hE
    have hq9:[]=(((M.chkW s).1).start).pits:=rp_ hE
    have hq10:[]=(((M.chkW s).1).start).stores:=rp_ hE
    have hq11:0=(((M.chkW s).1).start).player:=rp_ hE
    have hq12:[]=((M.chkW s).1).moves:=rp_ hE
    have hq13:[]=(((M.chkW s).1).now).pits:=rp_ hE
    have hq14:[]=(((M.chkW s).1).now).stores:=rp_ hE
    have hq15:0=(((M.chkW s).1).now).player:=rp_ hE
    have hq16:0=((M.chkW s).1).resigned:=rp_ hE
    have hq17:(k:Int)=(M.chkW s).2.1:=rp_ hE
    have hq18:((M.headI gk (k:Int) ye26).2)=(M.chkW s).2.2:=rp_ hE
    refine zS<|Qb ?_
    refine Qm rfl<|Qm rfl<|zw 8 rfl rfl rfl ?_
    refine Qa rfl<|Qa rfl<|JL.nil ?_
    exact zro (x5.trans x20)
   have hR2:=hR.step hk2 hf (by simpa using h32)
   refine Js.skip<|Js.blockEnd<|Js.region<|Qm rfl<|Qp rfl rfl<|Qa rfl<|JL.nil ?_
   refine zd [5,4,3,2,1,2,0,1] rfl λu33 x33=>?_
   exact zag ⟨k + 1,(M.headI gk (k:Int) ye26).1,_,_,_,_,_,_,_,_,_,_,_,_,_,_,_,rfl,rfl,by exact hR2,zt,zu,zu,zu,zu,zu,zu,zu,zu,zu,zu,rfl⟩ (x20.trans x33)
  have hk9:¬ k < 2:=by have:=h25';omega
  obtain⟨ye34,hye34⟩:∃ x,out[k]?=some x:=⟨_,List.getElem?_eq_getElem (by omega)⟩
  have hm9:=hmem _ (List.mem_of_getElem? hye34)
  have hb:M.base (M.recL s) gk k=M.lineI gk ye34:=M.a8q (by rw[<- hout];exact hye34) hk9
  refine Js.region<|Qm rfl<|Qm rfl<|Qm rfl ?_
  refine JL.fact (a0s (i:=5) rfl (by omega)) (λhf36=>?_)
  obtain⟨b36,rfl⟩:=hf36
  have hye34:(out:List (List UInt8))[k]?=some ye34:=hye34
  refine Qq (a0a el_31 rfl rfl (by omega) (by omega) rfl)<|Qw (a0c ty_9.h rfl (Mem.row (i:=5) rfl (txs_get' (xs:=out) hye34))) ?_
  refine zhl [6,4,3,2,1,0] ?_
  refine zB 6 sp_ rfl (λw hb hw=>zq113 gk ye34 hb (ok_ hw)) ?_
  rintro _ _ G38 ⟨A38x_9,c38x_9,g38x_9,A38x_10,c38x_10,g38x_10,A38x_12,c38x_12,g38x_12,A38x_13,c38x_13,g38x_13,A38x_14,c38x_14,g38x_14,rfl,rfl,bl38_0,bl38_1,bl38_2,bl38_3,bl38_4,bl38_5,bl38_6,bl38_7,bl38_8,bl38_9⟩
  refine znl ?_
  refine Qa rfl<|JL.nil<|Js.blockEnd<|Js.seq<|zS<|Qm rfl<|Qe rfl rfl<|Qm rfl<|zg (Gd.t1 rfl rfl rfl) (λhc=>a0e rfl)<|zg (Gd.t1 rfl rfl rfl) (λhc=>a0e rfl)<|zg (Gd.t1 rfl rfl rfl) (λhc=>p_len el_31 (gh hc rfl))<|zg (Gd.t1 rfl rfl rfl) (λhc=>p_sub (gh hc rfl) rfl (IntWalk.i64_in _ (oh_ hc))) ?_
  refine zg (Gd.t1 rfl rfl rfl) (λhc=>p_eql (gh hc rfl) (gh hc rfl))<|Qq (a0d rfl rfl rfl)<|Qm rfl<|zg (Gd.t1 rfl rfl rfl) (λhc=>a0e rfl)<|zg (Gd.t1 rfl rfl rfl) (λhc=>p_not (gh hc rfl))<|Qq (a0d rfl rfl rfl)<|JL.nil ?_
  refine zi (λh39 h39'=>?_) λh39 h39'=>?_
  ·have hf:=M.flt_7 (e:=M.whole s) hb (by have h9:=h39;rw[<- hout,<- hee];simp at h9;exact⟨by first|exact h9.1.1|omega,by omega,h9.2⟩)
   have hE:=hR.bad hk2 hf (show ¬ (7:Int)=0 by decide)
   refine Js.region<|Qa rfl<|zN<|Qm rfl<|Qd rfl rfl<|JL.nil ?_
   refine Js.condT rfl (by decide) ?_
   have hq0:0=(((M.chkW s).1).rules).pits:=rp_ hE
   have hq1:0=(((M.chkW s).1).rules).seeds:=rp_ hE
   have hq2:false=(((M.chkW s).1).rules).stores:=rp_ hE
   have hq3:false=(((M.chkW s).1).rules).skip:=rp_ hE
   have hq4:false=(((M.chkW s).1).rules).relay:=rp_ hE
   have hq5:false=(((M.chkW s).1).rules).feed:=rp_ hE
   have hq6:false=(((M.chkW s).1).rules).again:=rp_ hE
   have hq7:0=(((M.chkW s).1).rules).capture:=rp_ hE
   have hq8:0=(((M.chkW s).1).rules).slam:=rp_ hE
   have hq9:[]=(((M.chkW s).1).start).pits:=rp_ hE
   have hq10:[]=(((M.chkW s).1).start).stores:=rp_ hE
   have hq11:0=(((M.chkW s).1).start).player:=rp_ hE
   have hq12:[]=((M.chkW s).1).moves:=rp_ hE
   have hq13:[]=(((M.chkW s).1).now).pits:=rp_ hE
   have hq14:[]=(((M.chkW s).1).now).stores:=rp_ hE
   have hq15:0=(((M.chkW s).1).now).player:=rp_ hE
   have hq16:0=((M.chkW s).1).resigned:=rp_ hE
   have hq17:(k:Int)=(M.chkW s).2.1:=rp_ hE
   have hq18:7=(M.chkW s).2.2:=rp_ hE
   refine zS<|Qb ?_
   refine Qm rfl<|Qm rfl<|zw 8 rfl rfl rfl ?_
   refine Qa rfl<|Qa rfl<|JL.nil ?_
   exact zro (x5.trans x20)
  have hf:=M.flt_b (e:=M.whole s) hb (fun ⟨d1,d2,d3⟩=>by have h9:=h39;rw[<- hee] at d3;rw[<- hout] at d2;simp[d1,d3] at h9;omega)
  refine Js.skip<|zS<|Qm rfl<|Qd rfl rfl<|JL.nil ?_
  refine zi (λh40 h40'=>?_) λh40 h40'=>?_
  ·have hE:=hR.bad hk2 hf (by simpa using h40)
   have hq0:0=(((M.chkW s).1).rules).pits:=rp_ hE
   have hq1:0=(((M.chkW s).1).rules).seeds:=rp_ hE
   have hq2:false=(((M.chkW s).1).rules).stores:=rp_ hE
   have hq3:false=(((M.chkW s).1).rules).skip:=rp_ hE
   have hq4:false=(((M.chkW s).1).rules).relay:=rp_ hE
   have hq5:false=(((M.chkW s).1).rules).feed:=rp_ hE
   have hq6:false=(((M.chkW s).1).rules).again:=rp_ hE
   have hq7:0=(((M.chkW s).1).rules).capture:=rp_ hE
   have hq8:0=(((M.chkW s).1).rules).slam:=rp_ hE
   have hq9:[]=(((M.chkW s).1).start).pits:=rp_ hE
   have hq10:[]=(((M.chkW s).1).start).stores:=rp_ hE
   have hq11:0=(((M.chkW s).1).start).player:=rp_ hE
   have hq12:[]=((M.chkW s).1).moves:=rp_ hE
   have hq13:[]=(((M.chkW s).1).now).pits:=rp_ hE
   have hq14:[]=(((M.chkW s).1).now).stores:=rp_ hE
   have hq15:0=(((M.chkW s).1).now).player:=rp_ hE
   have hq16:0=((M.chkW s).1).resigned:=rp_ hE
   have hq17:(k:Int)=(M.chkW s).2.1:=rp_ hE
   have hq18:((M.lineI gk ye34).2)=(M.chkW s).2.2:=rp_ hE
   refine zS<|Qb ?_
   refine Qm rfl<|Qm rfl<|zw 8 rfl rfl rfl ?_
   refine Qa rfl<|Qa rfl<|JL.nil ?_
   exact zro (x5.trans x20)
  have hR2:=hR.step hk2 hf (by simpa using h40)
  refine Js.skip<|Js.blockEnd<|Js.region<|Qm rfl<|Qp rfl rfl<|Qa rfl<|JL.nil ?_
  refine zd [5,4,3,2,1,2,0,1] rfl λu41 x41=>?_
  exact zag ⟨k + 1,(M.lineI gk ye34).1,_,_,_,_,_,_,_,_,_,_,_,_,_,_,_,rfl,rfl,by exact hR2,zt,zu,zu,zu,zu,zu,zu,zu,zu,zu,zu,rfl⟩ (x20.trans x41)
 have hE:=hR.done (by have:=h21';rw[<- hout];omega)
 refine zx ?_
 have hq0:gk.rules.pits=(((M.chkW s).1).rules).pits:=rp_ hE
 have hq1:gk.rules.seeds=(((M.chkW s).1).rules).seeds:=rp_ hE
 have hq2:gk.rules.stores=(((M.chkW s).1).rules).stores:=rp_ hE
 have hq3:gk.rules.skip=(((M.chkW s).1).rules).skip:=rp_ hE
 have hq4:gk.rules.relay=(((M.chkW s).1).rules).relay:=rp_ hE
 have hq5:gk.rules.feed=(((M.chkW s).1).rules).feed:=rp_ hE
 have hq6:gk.rules.again=(((M.chkW s).1).rules).again:=rp_ hE
 have hq7:gk.rules.capture=(((M.chkW s).1).rules).capture:=rp_ hE
 have hq8:gk.rules.slam=(((M.chkW s).1).rules).slam:=rp_ hE
 have hq9:gk.start.pits=(((M.chkW s).1).start).pits:=rp_ hE
 have hq10:gk.start.stores=(((M.chkW s).1).start).stores:=rp_ hE
 have hq11:gk.start.player=(((M.chkW s).1).start).player:=rp_ hE
 have hq12:gk.moves=((M.chkW s).1).moves:=rp_ hE
 have hq13:gk.now.pits=(((M.chkW s).1).now).pits:=rp_ hE
 have hq14:gk.now.stores=(((M.chkW s).1).now).stores:=rp_ hE
 have hq15:gk.now.player=(((M.chkW s).1).now).player:=rp_ hE
 have hq16:gk.resigned=((M.chkW s).1).resigned:=rp_ hE
 have hq17:(-1)=(M.chkW s).2.1:=rp_ hE
 have hq18:0=(M.chkW s).2.2:=rp_ hE
 refine zS<|Qm rfl<|Qc rfl<|Qf fh rfl<|Q9 6 rfl rfl ?_
 refine zw 7 rfl rfl rfl ?_
 refine Qa rfl<|Qa rfl<|JL.nil ?_
 exact zro (x5.trans x20)
theorem zq61(s:List UInt8){w:World}(h_tab:tabT.ok w undef)(r0:s.length<=1048576:=by exact om_):RetV Tryz.prog 25 [.string (sB s)] w (.tuple #[.int .i64 ((M.chkC s).1),.int .i64 ((M.chkC s).2.1),.int .i64 ((M.chkC s).2.2)]):=by
 refine enter @Tryz.func25 @Tryz.ntmps25 rfl rfl ?_
 refine zent ?_
 refine zS<|Qa rfl<|Qa rfl<|Qa rfl<|zJ<|zS<|Qm rfl<|Qq (a0t und_9 rfl)<|Qg rfl rfl<|JL.nil ?_
 refine zi (λh1 h1'=>?_) λh1 h1'=>?_
 ·have hE:=M.chkC_5 (s:=s) (by have:=h1';omega)
  refine zS<|Qa rfl<|Qa rfl<|Qa rfl<|JL.nil ?_
  refine zR (Up.refl _ _) ?_
  first|(rw[hE];done)|(rw[hE];rfl)
 have hE:=M.b9h (s:=s) (by have:=h1';omega)
 refine Js.skip<|zS<|Qm rfl<|zp rfl (λw hw=>zq60 s (ok_ hw)) ?_
 intro u2 x2 A3 c3 h3 bl3 bh3 A4 c4 h4 bl4 bh4 A5 c5 h5 bl5 bh5 A6 c6 h6 bl6 bh6 A7 c7 h7 bl7 bh7
 refine Qm rfl<|Qx rfl rfl<|Qx rfl rfl<|Qx rfl rfl<|za zeh λb8=>zw 0 rfl rfl rfl ?_
 refine Qa rfl<|Qa rfl<|zN<|Qm rfl<|Qm rfl<|Qa rfl<|Qa rfl<|Qa rfl<|JL.nil ?_
 refine zR x2 ?_
 first|(rw[hE];done)|(rw[hE];rfl)
theorem zq62(s:List UInt8){w:World}(h_tab:tabT.ok w undef)(r0:s.length<=1048576:=by exact om_):Ret Tryz.prog 27 [.string (sB s)] w (Ty.tup [Ty.agg (cGame ((M.readG s).1)),Ty.bool ((M.readG s).2)]):=by
 refine enter @Tryz.func27 @Tryz.ntmps27 rfl rfl ?_
 refine zent ?_
 refine zS<|za zeh λb1=>Qa rfl<|zJ<|zS<|Qm rfl<|Qq (a0t und_9 rfl)<|Qg rfl rfl<|JL.nil ?_
 refine zi (λh2 h2'=>?_) λh2 h2'=>?_
 ·have hE:=M.b0a (s:=s) (by have:=h2';omega)
  have hq0:0=(((M.readG s).1).rules).pits:=rp_ hE
  have hq1:0=(((M.readG s).1).rules).seeds:=rp_ hE
  have hq2:false=(((M.readG s).1).rules).stores:=rp_ hE
  have hq3:false=(((M.readG s).1).rules).skip:=rp_ hE
  have hq4:false=(((M.readG s).1).rules).relay:=rp_ hE
  have hq5:false=(((M.readG s).1).rules).feed:=rp_ hE
  have hq6:false=(((M.readG s).1).rules).again:=rp_ hE
  have hq7:0=(((M.readG s).1).rules).capture:=rp_ hE
  have hq8:0=(((M.readG s).1).rules).slam:=rp_ hE
  have hq9:[]=(((M.readG s).1).start).pits:=rp_ hE
  have hq10:[]=(((M.readG s).1).start).stores:=rp_ hE
  have hq11:0=(((M.readG s).1).start).player:=rp_ hE
  have hq12:[]=((M.readG s).1).moves:=rp_ hE
  have hq13:[]=(((M.readG s).1).now).pits:=rp_ hE
  have hq14:[]=(((M.readG s).1).now).stores:=rp_ hE
  have hq15:0=(((M.readG s).1).now).player:=rp_ hE
  have hq16:0=((M.readG s).1).resigned:=rp_ hE
  have hq17:false=(M.readG s).2:=rp_ hE
  refine zS<|Qb ?_
  refine zw 0 rfl rfl rfl ?_
  refine Qa rfl<|JL.nil ?_
  exact zro (Up.refl _ _)
 have hs9:¬ 4000 < s.length:=by have:=h2';omega
 have hco:=M.b1y s
 refine Js.skip<|zS<|Qm rfl<|zc rfl (λw hw=>zq60 s (ok_ hw)) ?_
 intro A5 c5 bl5 bh5 A6 c6 bl6 bh6 A7 c7 bl7 bh7 A8 c8 bl8 bh8 A9 c9 bl9 bh9
 refine Qm rfl<|Qx rfl rfl<|Qx rfl rfl<|Qx rfl rfl<|za zeh λb10=>zw 0 rfl rfl rfl ?_
 refine Qa rfl<|Qa rfl<|zJ<|zS<|Qm rfl<|Qh rfl rfl<|JL.nil ?_
 refine zi (λh11 h11'=>?_) λh11 h11'=>?_
 ·have hE:=M.a8a hs9 (by have h8:=h11';rcases hco with h9|h9;omega;exact h9.2.1)
  have hq0:0=(((M.readG s).1).rules).pits:=rp_ hE
  have hq1:0=(((M.readG s).1).rules).seeds:=rp_ hE
  have hq2:false=(((M.readG s).1).rules).stores:=rp_ hE
  have hq3:false=(((M.readG s).1).rules).skip:=rp_ hE
  have hq4:false=(((M.readG s).1).rules).relay:=rp_ hE
  have hq5:false=(((M.readG s).1).rules).feed:=rp_ hE
  have hq6:false=(((M.readG s).1).rules).again:=rp_ hE
  have hq7:0=(((M.readG s).1).rules).capture:=rp_ hE
  have hq8:0=(((M.readG s).1).rules).slam:=rp_ hE
  have hq9:[]=(((M.readG s).1).start).pits:=rp_ hE
  have hq10:[]=(((M.readG s).1).start).stores:=rp_ hE
  have hq11:0=(((M.readG s).1).start).player:=rp_ hE
  have hq12:[]=((M.readG s).1).moves:=rp_ hE
  have hq13:[]=(((M.readG s).1).now).pits:=rp_ hE
  have hq14:[]=(((M.readG s).1).now).stores:=rp_ hE
  have hq15:0=(((M.readG s).1).now).player:=rp_ hE
  have hq16:0=((M.readG s).1).resigned:=rp_ hE
  have hq17:false=(M.readG s).2:=rp_ hE
  refine zS<|Qb ?_
  refine zw 6 rfl rfl rfl ?_
  refine Qa rfl<|JL.nil ?_
  exact zro (Up.refl _ _)
 have hE:=M.a8c hs9 (by have h8:=h11';rcases hco with h9|h9;exact h9.2;omega)
 have hq0:((((M.chkW s).1).rules).pits)=(((M.readG s).1).rules).pits:=rp_ hE
 have hq1:((((M.chkW s).1).rules).seeds)=(((M.readG s).1).rules).seeds:=rp_ hE
 have hq2:((((M.chkW s).1).rules).stores)=(((M.readG s).1).rules).stores:=rp_ hE
 have hq3:((((M.chkW s).1).rules).skip)=(((M.readG s).1).rules).skip:=rp_ hE
 have hq4:((((M.chkW s).1).rules).relay)=(((M.readG s).1).rules).relay:=rp_ hE
 have hq5:((((M.chkW s).1).rules).feed)=(((M.readG s).1).rules).feed:=rp_ hE
 have hq6:((((M.chkW s).1).rules).again)=(((M.readG s).1).rules).again:=rp_ hE
 have hq7:((((M.chkW s).1).rules).capture)=(((M.readG s).1).rules).capture:=rp_ hE
 have hq8:((((M.chkW s).1).rules).slam)=(((M.readG s).1).rules).slam:=rp_ hE
 have hq9:((((M.chkW s).1).start).pits)=(((M.readG s).1).start).pits:=rp_ hE
 have hq10:((((M.chkW s).1).start).stores)=(((M.readG s).1).start).stores:=rp_ hE
 have hq11:((((M.chkW s).1).start).player)=(((M.readG s).1).start).player:=rp_ hE
 have hq12:(((M.chkW s).1).moves)=((M.readG s).1).moves:=rp_ hE
 have hq13:((((M.chkW s).1).now).pits)=(((M.readG s).1).now).pits:=rp_ hE
 have hq14:((((M.chkW s).1).now).stores)=(((M.readG s).1).now).stores:=rp_ hE
 have hq15:((((M.chkW s).1).now).player)=(((M.readG s).1).now).player:=rp_ hE
 have hq16:(((M.chkW s).1).resigned)=((M.readG s).1).resigned:=rp_ hE
 have hq17:true=(M.readG s).2:=rp_ hE
 refine Js.skip<|zS<|Q9 0 rfl rfl ?_
 refine zw 6 rfl rfl rfl ?_
 refine Qa rfl<|JL.nil ?_
 exact zro (Up.refl _ _)
theorem zq114(s:List UInt8){w:World}(r0:s.length<=4194304:=by exact om_):Ret Tryz.prog 155 [.string (sB s)] w (Ty.tup [Ty.agg (cRules ((M.readR s).1)),Ty.bool ((M.readR s).2)]):=by
 refine enter @Tryz.func155 @Tryz.ntmps155 rfl rfl ?_
 refine zent ?_
 refine zS<|za zeh λb1=>Qa rfl<|zJ<|zS<|Qm rfl<|Qq (a0t und_9 rfl)<|Qg rfl rfl<|JL.nil ?_
 refine zi (λh2 h2'=>?_) λh2 h2'=>?_
 ·have hE:=M.readR_5 (s:=s) (by have:=h2';omega)
  have hq0:0=((M.readR s).1).pits:=rp_ hE
  have hq1:0=((M.readR s).1).seeds:=rp_ hE
  have hq2:false=((M.readR s).1).stores:=rp_ hE
  have hq3:false=((M.readR s).1).skip:=rp_ hE
  have hq4:false=((M.readR s).1).relay:=rp_ hE
  have hq5:false=((M.readR s).1).feed:=rp_ hE
  have hq6:false=((M.readR s).1).again:=rp_ hE
  have hq7:0=((M.readR s).1).capture:=rp_ hE
  have hq8:0=((M.readR s).1).slam:=rp_ hE
  have hq9:false=(M.readR s).2:=rp_ hE
  refine zS<|Qb ?_
  refine zw 0 rfl rfl rfl ?_
  refine Qa rfl<|JL.nil ?_
  exact zro (Up.refl _ _)
 have h200:¬ 200 < s.length:=by have:=h2';omega
 have hol:=M.b8n s
 have hrl:=M.a4h (M.chkR s)
 refine Js.skip<|zS<|Qm rfl<|zcs rfl (λw hw=>zq115 s) ?_
 intro f4 A5 c5 bl5 bh5
 refine Qm rfl<|Qx rfl rfl<|Qx rfl rfl<|za zeh λb6=>zw 0 rfl rfl rfl ?_
 refine Qa rfl<|zJ<|zS<|Qm rfl<|Qz rfl<|Qg rfl rfl<|Qm rfl<|zgv (Gd.f1 rfl rfl rfl) (λhc=>rfl) (λhc=>(λw hw=>zq63 (M.chkR s) (ok_ hw) (r0:=(M.b6i (by have h9:=hc;simp at h9;first|exact h9|exact List.length_eq_zero_iff.1 (by omega)))))) ?_
 refine zg (Gd.f1 rfl rfl rfl) (λhc=>a0e rfl)<|zg (Gd.f1 rfl rfl rfl) (λhc=>a2f und_9 (gh hc rfl) (gh hc rfl))<|Qq (a0j rfl rfl rfl)<|JL.nil ?_
 refine zi (λh7 h7'=>?_) λh7 h7'=>?_
 ·have hE:M.readR s=(M.Rul.zero,false):=by have h9:=h7;simp only[Bool.or_eq_true,Bool.not_eq_true',decide_eq_true_eq,decide_eq_false_iff_not] at h9;by_cases h8:M.chkO s=[];(rcases h9 with h9|h9;(rw[h8] at h9;exact absurd h9 (by decide));exact M.readR_f h200 h8 h9);exact M.readR_p h200 h8
  have hq0:0=((M.readR s).1).pits:=rp_ hE
  have hq1:0=((M.readR s).1).seeds:=rp_ hE
  have hq2:false=((M.readR s).1).stores:=rp_ hE
  have hq3:false=((M.readR s).1).skip:=rp_ hE
  have hq4:false=((M.readR s).1).relay:=rp_ hE
  have hq5:false=((M.readR s).1).feed:=rp_ hE
  have hq6:false=((M.readR s).1).again:=rp_ hE
  have hq7:0=((M.readR s).1).capture:=rp_ hE
  have hq8:0=((M.readR s).1).slam:=rp_ hE
  have hq9:false=(M.readR s).2:=rp_ hE
  refine zS<|Qb ?_
  refine zw 3 rfl rfl rfl ?_
  refine Qa rfl<|JL.nil ?_
  exact zro (Up.refl _ _)
 have h8:M.chkO s=[]/\M.rulesT (M.chkR s)=s:=by have h9:=h7;simp only[Bool.or_eq_false_iff,Bool.not_eq_false',decide_eq_true_eq,decide_eq_false_iff_not] at h9;exact⟨List.length_eq_zero_iff.1 (by have:=h9.1;omega),h9.2⟩
 have hE:=M.readR_t h200 h8.1 h8.2
 have hq0:((M.chkR s).pits)=((M.readR s).1).pits:=rp_ hE
 have hq1:((M.chkR s).seeds)=((M.readR s).1).seeds:=rp_ hE
 have hq2:((M.chkR s).stores)=((M.readR s).1).stores:=rp_ hE
 have hq3:((M.chkR s).skip)=((M.readR s).1).skip:=rp_ hE
 have hq4:((M.chkR s).relay)=((M.readR s).1).relay:=rp_ hE
 have hq5:((M.chkR s).feed)=((M.readR s).1).feed:=rp_ hE
 have hq6:((M.chkR s).again)=((M.readR s).1).again:=rp_ hE
 have hq7:((M.chkR s).capture)=((M.readR s).1).capture:=rp_ hE
 have hq8:((M.chkR s).slam)=((M.readR s).1).slam:=rp_ hE
 have hq9:true=(M.readR s).2:=rp_ hE
 refine Js.skip<|zS<|Q9 0 rfl rfl ?_
 refine zw 3 rfl rfl rfl ?_
 refine Qa rfl<|JL.nil ?_
 exact zro (Up.refl _ _)
theorem zq116(s:List UInt8){w:World}(r0:s.length<=4000000:=by exact om_):Ret Tryz.prog 186 [.string (sB s)] w (Ty.tup [Ty.agg (cPosition ((M.readP0 s).1)),Ty.bool ((M.readP0 s).2)]):=by
 refine enter @Tryz.func186 @Tryz.ntmps186 rfl rfl ?_
 refine zent ?_
 refine zS<|za zeh λb1=>Qa rfl<|zN<|Qm rfl<|zp rfl (λw hw=>zq12 s 32) ?_
 intro u2 x2 A3 c3 h3 bl3 bh3
 refine Qa rfl<|zJ<|zS<|Qm rfl<|Qz rfl<|Qd rfl rfl<|JL.nil ?_
 refine zi (λh4 h4'=>?_) λh4 h4'=>?_
 ·have hE:=M.a4a (s:=s) (λh=>by have h9:=h4';have h8:(M.split (M.u8 32) s).length=3:=h.1;omega)
  have hq0:[]=((M.readP0 s).1).pits:=rp_ hE
  have hq1:[]=((M.readP0 s).1).stores:=rp_ hE
  have hq2:0=((M.readP0 s).1).player:=rp_ hE
  have hq3:false=(M.readP0 s).2:=rp_ hE
  refine zS<|Qb ?_
  refine zw 0 rfl rfl rfl ?_
  refine Qa rfl<|JL.nil ?_
  exact zro x2
 have hl3:(M.split (M.u8 32) s).length=3:=by have:=h4';omega
 have hw0:(M.split (M.u8 32) s)[0]?=some (M.w3 s 0):=M.a9w (s:=s) (by exact(by omega:0 < (M.split (M.u8 32) s).length))
 have hw1:(M.split (M.u8 32) s)[1]?=some (M.w3 s 1):=M.a9w (s:=s) (by exact(by omega:1 < (M.split (M.u8 32) s).length))
 have hw2:(M.split (M.u8 32) s)[2]?=some (M.w3 s 2):=M.a9w (s:=s) (by exact(by omega:2 < (M.split (M.u8 32) s).length))
 have q0:=M.a6p (s:=s) (i:=0)
 have q1:=M.a6p (s:=s) (i:=1)
 have q2:=M.a6p (s:=s) (i:=2)
 have hy5:=hw1
 obtain⟨b5,o5,he5,hc5⟩:=a0o h3 hy5
 refine Js.skip<|zS<|Qm rfl<|Qq (a0a el_31 rfl rfl (by omega) (by omega) he5)<|QC hc5 rfl<|zp rfl (λw hw=>zq12 (M.w3 s 1) 47) ?_
 intro u6 x6 A7 c7 h7 bl7 bh7
 refine Qa rfl<|zJ<|zS<|Qm rfl<|Qz rfl<|Qd rfl rfl<|JL.nil ?_
 refine zi (λh8 h8'=>?_) λh8 h8'=>?_
 ·have hE:=M.a4a (s:=s) (λh=>by have h9:=h8';have h8:(M.split (M.u8 47) (M.w3 s 1)).length=2:=h.2.1;omega)
  have hq0:[]=((M.readP0 s).1).pits:=rp_ hE
  have hq1:[]=((M.readP0 s).1).stores:=rp_ hE
  have hq2:0=((M.readP0 s).1).player:=rp_ hE
  have hq3:false=(M.readP0 s).2:=rp_ hE
  refine zS<|Qb ?_
  refine zw 0 rfl rfl rfl ?_
  refine Qa rfl<|JL.nil ?_
  exact zro (x2.trans x6)
 have hl2:(M.split (M.u8 47) (M.w3 s 1)).length=2:=by have:=h8';omega
 have q10:=M.x2_sum (s:=s) hl2
 have hx0:(M.split (M.u8 47) (M.w3 s 1))[0]?=some (M.x2 s 0):=M.x2_get (s:=s) (by exact(by omega:0 < (M.split (M.u8 47) (M.w3 s 1)).length))
 have hx1:(M.split (M.u8 47) (M.w3 s 1))[1]?=some (M.x2 s 1):=M.x2_get (s:=s) (by exact(by omega:1 < (M.split (M.u8 47) (M.w3 s 1)).length))
 have q3:=M.x2_len (s:=s) (i:=0)
 have q4:=M.x2_len (s:=s) (i:=1)
 have q5:=M.a3h (M.x2 s 0)
 have q6:=M.a3h (M.x2 s 1)
 have q7:=M.a3h (M.w3 s 2)
 have q9:((M.nums (M.x2 s 0)).1++(M.nums (M.x2 s 1)).1).length<=4194304:=by rw[List.length_append];omega
 have hy9:=hw0
 obtain⟨b9,o9,he9,hc9⟩:=a0o (Ty.mono _ h3 x6.vis) hy9
 have hy10:=hx0
 obtain⟨b10,o10,he10,hc10⟩:=a0o h7 hy10
 refine Js.skip<|zS<|Qm rfl<|Qq (a0a el_31 rfl rfl (by omega) (by omega) he9)<|QC hc9 rfl<|zv rfl (λw hw=>zq8 (M.w3 s 0))<|Qm rfl<|Qx rfl rfl<|Qx rfl rfl<|Qa rfl<|Qa rfl<|zN<|Qm rfl<|Qq (a0a el_31 rfl rfl (by omega) (by omega) he10) ?_
 refine QC hc10 rfl<|zcs rfl (λw hw=>zq32 (M.x2 s 0)) ?_
 intro A12 c12 bl12 bh12
 have hy13:=hx1
 obtain⟨b13,o13,he13,hc13⟩:=a0o h7 hy13
 refine Qm rfl<|Qx rfl rfl<|Qx rfl rfl<|Qa rfl<|Qa rfl<|zN<|Qm rfl<|Qq (a0a el_31 rfl rfl (by omega) (by omega) he13)<|QC hc13 rfl<|zcs rfl (λw hw=>zq32 (M.x2 s 1)) ?_
 intro A15 c15 bl15 bh15
 have hy16:=hw2
 obtain⟨b16,o16,he16,hc16⟩:=a0o (Ty.mono _ h3 x6.vis) hy16
 refine Qm rfl<|Qx rfl rfl<|Qx rfl rfl<|Qa rfl<|Qa rfl<|zN<|Qm rfl<|Qq (a0a el_31 rfl rfl (by omega) (by omega) he16)<|QC hc16 rfl<|zcs rfl (λw hw=>zq32 (M.w3 s 2)) ?_
 intro A18 c18 bl18 bh18
 refine Qm rfl<|Qx rfl rfl<|Qx rfl rfl<|Qa rfl<|Qa rfl<|zJ<|zS<|Qm rfl<|Qt rfl<|Qm rfl<|zg (Gd.f1 rfl rfl rfl) (λhc=>a0e rfl)<|zg (Gd.f1 rfl rfl rfl) (λhc=>p_not (gh hc rfl))<|Qq (a0j rfl rfl rfl)<|Qm rfl ?_
 refine zg (Gd.f1 rfl rfl rfl) (λhc=>a0e rfl)<|zg (Gd.f1 rfl rfl rfl) (λhc=>p_not (gh hc rfl))<|Qq (a0j rfl rfl rfl)<|Qm rfl<|zg (Gd.f1 rfl rfl rfl) (λhc=>a0e rfl)<|zg (Gd.f1 rfl rfl rfl) (λhc=>p_not (gh hc rfl))<|Qq (a0j rfl rfl rfl)<|Qm rfl<|zg (Gd.f1 rfl rfl rfl) (λhc=>a0e rfl)<|zg (Gd.f1 rfl rfl rfl) (λhc=>p_len el_26 (gh hc rfl))<|zg (Gd.f1 rfl rfl rfl) (λhc=>a0e rfl)<|zg (Gd.f1 rfl rfl rfl) (λhc=>p_len el_26 (gh hc rfl))<|zg (Gd.f1 rfl rfl rfl) (λhc=>p_neq (gh hc rfl) (gh hc rfl))<|Qq (a0j rfl rfl rfl) ?_
 refine JL.nil ?_
 refine zi (λh19 h19'=>?_) λh19 h19'=>?_
 ·have hE:=M.a4a (s:=s) (by rintro⟨_,_,f1,f2,f3,f4,f5⟩;have h9:=h19;rw[f1,f2,f3,f4] at h9;simp at h9;omega)
  have hq0:[]=((M.readP0 s).1).pits:=rp_ hE
  have hq1:[]=((M.readP0 s).1).stores:=rp_ hE
  have hq2:0=((M.readP0 s).1).player:=rp_ hE
  have hq3:false=(M.readP0 s).2:=rp_ hE
  refine zS<|Qb ?_
  refine zw 3 rfl rfl rfl ?_
  refine Qa rfl<|JL.nil ?_
  exact zro (x2.trans x6)
 have hE:=M.b1d (s:=s) (by have h9:=h19;simp only[Bool.or_eq_false_iff,Bool.not_eq_false',decide_eq_true_eq] at h9;exact⟨hl3,hl2,h9.1.1.1.1,h9.1.1.1.2,h9.1.1.2,h9.1.2,by have:=h9.2;omega⟩)
 refine Js.skip<|zS<|Qm rfl<|Qm rfl ?_
 refine JL.e (a0g (i:=2) (n':=(((M.nums (M.x2 s 0)).1)++((M.nums (M.x2 s 1)).1)).length) (vs':=ints_ (((M.nums (M.x2 s 0)).1)++((M.nums (M.x2 s 1)).1))) el_26 rfl rfl rfl rfl (b9x (i:=1) a1h rfl (b7s _)) (by omega) (by omega) ln2_ (by simp[ints_])) ?_
 rintro v20 _ _ ⟨⟨g21,rfl⟩,rfl⟩ _
 refine JL.fact (row_form' (i:=2) rfl) (λhf22=>?_)
 obtain⟨A22,c22,rfl,bl22,bh22⟩:=hf22
 refine znl ?_
 have hq0:(((M.nums (M.x2 s 0)).1)++((M.nums (M.x2 s 1)).1))=((M.readP0 s).1).pits:=rp_ hE
 have hq1:((M.nums (M.w3 s 2)).1)=((M.readP0 s).1).stores:=rp_ hE
 have hq2:((M.num (M.w3 s 0)).1)=((M.readP0 s).1).player:=rp_ hE
 have hq3:true=(M.readP0 s).2:=rp_ hE
 refine Qm rfl<|Qm rfl<|Qb ?_
 refine zw 3 rfl rfl rfl ?_
 refine Qa rfl<|JL.nil ?_
 exact zro (x2.trans x6)
theorem zq117(r:M.Rul){v_r:Value}(s:List UInt8){w:World}(h_r:(Ty.agg (cRules r)).ok w v_r)(r0:s.length<=4000000:=by exact om_):Ret Tryz.prog 156 [v_r,.string (sB s)] w (Ty.tup [Ty.agg (cPosition ((M.readP r s).1)),Ty.bool ((M.readP r s).2)]):=by
 have q1:=M.c0s s
 revert v_r;apply opn
 refine enter @Tryz.func156 @Tryz.ntmps156 rfl rfl ?_
 refine zent ?_
 refine zS<|zb rfl λb1=>za zeh λb2=>Qa rfl<|zN<|Qm rfl<|zc rfl (λw hw=>zq116 s) ?_
 intro A5 c5 bl5 bh5 A6 c6 bl6 bh6
 refine Qm rfl<|Qx rfl rfl<|Qx rfl rfl<|za zeh λb7=>zw 0 rfl rfl rfl ?_
 refine Qa rfl<|zJ<|zS<|Qm rfl<|Qt rfl<|Qm rfl<|zgv (Gd.f1 rfl rfl rfl) (λhc=>rfl) (λhc=>(λw hw=>zq25 r ((M.readP0 s).1) (ok_ hw) (ok_ hw) (r0:=(by have hc9:=hc;(try simp only[Bool.not_eq_true',Bool.not_eq_false'] at hc9);omega)) (r1:=(by have hc9:=hc;(try simp only[Bool.not_eq_true',Bool.not_eq_false'] at hc9);omega)))) ?_
 refine zg (Gd.f1 rfl rfl rfl) (λhc=>p_not (gh hc rfl))<|Qq (a0j rfl rfl rfl)<|JL.nil ?_
 refine zi (λh8 h8'=>?_) λh8 h8'=>?_
 ·have hE:=M.readP_n (r:=r) (s:=s) (by rintro⟨f1,f2⟩;have h9:=h8;rw[f1,f2] at h9;simp at h9)
  have hq0:[]=((M.readP r s).1).pits:=rp_ hE
  have hq1:[]=((M.readP r s).1).stores:=rp_ hE
  have hq2:0=((M.readP r s).1).player:=rp_ hE
  have hq3:false=(M.readP r s).2:=rp_ hE
  refine zS<|Qb ?_
  refine zw 3 rfl rfl rfl ?_
  refine Qa rfl<|JL.nil ?_
  exact zro (Up.refl _ _)
 have h8:(M.readP0 s).2=true/\M.okP r (M.readP0 s).1=true:=by have h9:=h8;simpa using h9
 have hE:=M.readP_y h8.1 h8.2
 have hq0:(((M.readP0 s).1).pits)=((M.readP r s).1).pits:=rp_ hE
 have hq1:(((M.readP0 s).1).stores)=((M.readP r s).1).stores:=rp_ hE
 have hq2:(((M.readP0 s).1).player)=((M.readP r s).1).player:=rp_ hE
 have hq3:true=(M.readP r s).2:=rp_ hE
 refine Js.skip<|zS<|Q9 0 rfl rfl ?_
 refine zw 3 rfl rfl rfl ?_
 refine Qa rfl<|JL.nil ?_
 exact zro (Up.refl _ _)
end Go.Proofs.YtjgohnaobbphpaaGreatDoor

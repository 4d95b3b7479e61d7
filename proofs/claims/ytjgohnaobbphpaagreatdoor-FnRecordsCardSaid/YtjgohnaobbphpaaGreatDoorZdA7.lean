/- Walks: K4. -/
import Derived.Test.YtjgohnaobbphpaaGreatDoorZdA4
import Derived.Test.YtjgohnaobbphpaaGreatDoorZdA6
import Derived.Test.YtjgohnaobbphpaaGreatDoorZdA1
import Derived.Test.YtjgohnaobbphpaaGreatDoorZdA2
set_option linter.unusedSimpArgs false
set_option linter.unusedVariables false
set_option maxRecDepth 100000
attribute [local irreducible] Go.Proofs.YtjgohnaobbphpaaGreatDoor.gv
set_option maxHeartbeats 4000000
namespace Go.Proofs.YtjgohnaobbphpaaGreatDoor
open Go.RowKit
theorem zq40(r:M.Rul){v_r:Value}(p:M.Pos){v_p:Value}(moves:List Int){v_moves:Value}{w:World}(h_r:(Ty.ref (cRules r)).ok w v_r)(h_p:(Ty.ref (cPosition p)).ok w v_p)(h_moves:(Ty.ints 2 moves).ok w v_moves)(r0:p.pits.length<=4194304:=by exact om_)(r1:p.stores.length<=4194304:=by exact om_)(r2:moves.length<=4194304:=by exact om_):Ret Tryz.prog 80 [v_r,v_p,v_moves] w (Ty.tup [Ty.sl 28 3 (M.hist p (M.runs r p moves)).length (lPosition (M.hist p (M.runs r p moves))),Ty.ints 2 (M.gains (M.runs r p moves))]):=by
 revert v_r;apply opn
 intro b1 o1 hr1
 revert v_p;apply opn
 intro b4 o4 A2 c2 h2 bl2 bh2 A3 c3 h3 bl3 bh3 hr4
 revert v_moves;apply opn
 intro A5 c5 h5 bl5 bh5
 have h_moves:=h5
 refine enter @Tryz.func80 @Tryz.ntmps80 rfl rfl ?_
 refine zent ?_
 refine zS<|Qa rfl<|Qa rfl<|zN<|Qm rfl<|zcs rfl (λw hw=>zq10 p (ok_ hw)) ?_
 intro A6_0 c6_0 bl6_0 bh6_0 A6_1 c6_1 bl6_1 bh6_1 f6
 refine zbs λb7=>?_
 refine Qa rfl<|zN<|zbs λb9=>?_
 refine Qa rfl<|zN<|Qm rfl<|zp rfl (λw hw=>zq10 p (ok_ hw)) ?_
 intro u11 x11 A12 c12 h12 bl12 bh12 A13 c13 h13 bl13 bh13
 refine za zeh λb14=>zw 0 rfl rfl rfl ?_
 refine zJ<|zS<|Qa rfl<|JL.nil<|Js.block ?_
 refine Js.vals (Ts:=lPosition []) (vs:=[]) (λw=>rfl) ?_
 refine Js.joinL (i:=0) (j:=3) (Vs:=lPosition ([]++[p])) rfl rfl (a2q _ _) (λf17=>?_)
 refine zn ?_
 refine zl [0,2,10] (λF U l os u m=>∃ (k:Nat) (now:M.Pos) (made:List M.Res) (out:List M.Pos) (gains:List Int) (A15_8:Option Addr) (c15_8:Nat) (g15_8:List Nat) (vs15_8:List Value) (fl15_8:List Nat) (A15_9:Option Addr) (c15_9:Nat) (g15_9:List Nat) (A15_10_0:Option Addr) (c15_10_0:Nat) (A15_10_1:Option Addr) (c15_10_1:Nat),l=F [(8,.slice A15_8 out.length c15_8),(9,.slice A15_9 gains.length c15_9),(11,.int .i64 (k:Int))]/\os=U [some (ownC (lPosition out) vs15_8 fl15_8),some (boxO b14 [.slice A15_10_0 now.pits.length c15_10_0,.slice A15_10_1 now.stores.length c15_10_1,.int .i64 now.player] 28),some (rowO 2 1 (.slice A15_9 gains.length c15_9) gains.length (ints_ gains) g15_9),some (rowO 28 3 (.slice A15_8 out.length c15_8) out.length vs15_8 g15_8)]/\(M.Run r p moves k now made)/\(out=M.hist p made)/\(gains=M.gains made)/\(now.pits.length<=4194304)/\(now.stores.length<=4194304)/\(out.length<=c15_8)/\(c15_8<=9223372036854775807)/\(gains.length<=c15_9)/\(c15_9<=9223372036854775807)/\((Ty.ints 2 now.pits).ok u (.slice A15_10_0 now.pits.length c15_10_0))/\(now.pits.length<=c15_10_0)/\(c15_10_0<=9223372036854775807)/\((Ty.ints 2 now.stores).ok u (.slice A15_10_1 now.stores.length c15_10_1))/\(now.stores.length<=c15_10_1)/\(c15_10_1<=9223372036854775807)/\m=moves.length - k) ⟨0,p,[],[p],[],_,_,_,_,_,_,_,_,_,_,_,_,rfl,rfl,by exact M.Run.zero _ _ _,by rfl,by rfl,zt,zt,zu,zu,zu,zu,h12,zu,zu,h13,zu,zu,rfl⟩ ?_
 rintro _ _ u15 _ ⟨k,now,made,out,gains,A15_8,c15_8,g15_8,vs15_8,fl15_8,A15_9,c15_9,g15_9,A15_10_0,c15_10_0,A15_10_1,c15_10_1,rfl,rfl,hR,hO,hGn,n0,n1,f15_5,f15_6,f15_7,f15_8,f15_9,f15_10,f15_11,f15_12,f15_13,f15_14,rfl⟩ x15
 refine zn ?_
 have hl1:=hR.len
 have hl3:=hR.le
 have hlO:out.length=made.length + 1:=by rw[hO];simp
 have hlG:gains.length=made.length:=by rw[hGn];simp[M.gains]
 refine Js.seq<|zS<|Qm rfl<|Qm rfl<|Qz rfl<|Ql rfl rfl<|JL.nil ?_
 refine zi (λh18 h18'=>?_) λh18 h18'=>?_
 ·obtain⟨b19,o19,he19,hc19⟩:=a0l (Ty.mono _ h5 (x11.vis.trans x15.vis)) (i:=k) (by omega)
  refine Js.skip<|Js.seq<|Js.block<|zS<|Qm rfl<|Qm rfl<|Qm rfl<|Qq (a0a el_26 rfl rfl (by omega) (by omega) he19)<|QC hc19 rfl<|zp rfl (λw hw=>zq13 r now (M.nth moves k) (ok_ hw) (ok_ hw)) ?_
  intro u20 x20 A21 c21 h21 bl21 bh21 A22 c22 h22 bl22 bh22
  refine Qm rfl<|Qx rfl rfl<|Qx rfl rfl<|za zeh λb23=>zw 0 rfl rfl rfl ?_
  refine Qa rfl<|zJ<|zS<|Qm rfl<|Qd rfl rfl<|JL.nil ?_
  refine zi (λh24 h24'=>?_) λh24 h24'=>?_
  ·have hE:=(hR.fail (by omega) (by simpa using h24)).1
   have hq0:out=M.hist p (M.runs r p moves):=by first|(rw[hE];exact hO)|(rw[hE];exact hGn)
   have hq1:gains=M.gains (M.runs r p moves):=by first|(rw[hE];exact hO)|(rw[hE];exact hGn)
   refine zS<|Qm rfl<|Qm rfl<|Qa rfl<|Qa rfl<|JL.nil ?_
   exact zro ((x11.trans x15).trans x20)
  have hm:(M.make r now (M.nth moves k)).2=0:=by simpa using h24
  have hR2:=hR.step (by omega) hm
  have hl2:=M.a2a (M.a2n hm).2.2.2.1
  refine Js.skip<|zS<|Qf fh rfl<|Q9 0 rfl rfl ?_
  refine zw 2 rfl rfl rfl ?_
  refine zN<|Qm rfl<|zcs rfl (λw hw=>zq10 (((M.make r now (M.nth moves k)).1).next) (ok_ hw)) ?_
  intro A25_0 c25_0 bl25_0 bh25_0 A25_1 c25_1 bl25_1 bh25_1 f25
  refine zbs λb26=>?_
  refine JL.e (a0g (i:=6) (n':=(out++[(((M.make r now (M.nth moves k)).1).next)]).length) (vs':=vs15_8++[.slice A25_0 (((((M.make r now (M.nth moves k)).1).next).pits).length) c25_0,.slice A25_1 (((((M.make r now (M.nth moves k)).1).next).stores).length) c25_1,.int .i64 ((((M.make r now (M.nth moves k)).1).next).player)]) a3p rfl rfl rfl rfl (a0k (i:=0) a3n rfl rfl) (by omega) (by omega) ln2_ (rfl)) ?_
  rintro v28 _ _ ⟨⟨g29,rfl⟩,rfl⟩ _
  refine JL.fact (row_form' (i:=6) rfl) (λhf30=>?_)
  obtain⟨A30,c30,rfl,bl30,bh30⟩:=hf30
  refine znl ?_
  refine Qa rfl<|JL.nil ?_
  refine Js.joinL (i:=3) (j:=1) (Vs:=lPosition (out++[(((M.make r now (M.nth moves k)).1).next)])) rfl rfl (a2q _ _) (λf32=>?_)
  refine zn ?_
  refine Js.region<|Qm rfl<|Qf fh rfl<|Q0 2 rfl rfl rfl<|zbs λb33=>?_
  refine JL.e (a0g (i:=5) (n':=(gains++[(((M.make r now (M.nth moves k)).1).gain)]).length) (vs':=ints_ (gains++[(((M.make r now (M.nth moves k)).1).gain)])) el_26 rfl rfl rfl rfl (a0k (i:=0) a1h rfl rfl) (by omega) (by omega) ln2_ (by simp[ints_])) ?_
  rintro v35 _ _ ⟨⟨g36,rfl⟩,rfl⟩ _
  refine JL.fact (row_form' (i:=5) rfl) (λhf37=>?_)
  obtain⟨A37,c37,rfl,bl37,bh37⟩:=hf37
  refine znl ?_
  refine Qa rfl<|JL.nil<|Js.blockEnd<|Js.region<|Qm rfl<|Qp rfl rfl<|Qa rfl<|JL.nil ?_
  refine zd [1,3,3,3] rfl λu38 x38=>?_
  exact zag ⟨k + 1,(((M.make r now (M.nth moves k)).1).next),made++[(M.make r now (M.nth moves k)).1],out++[(((M.make r now (M.nth moves k)).1).next)],gains++[(((M.make r now (M.nth moves k)).1).gain)],_,_,_,_,_,_,_,_,_,_,_,_,rfl,rfl,by exact hR2,by rw[hO];exact(M.b5p _ _ _).symm,by rw[hGn];simp[M.gains],by exact hl2.1,by exact hl2.2,zu,zu,zu,zu,(Ty.mono _ h21 x38.vis),zu,zu,(Ty.mono _ h22 x38.vis),zu,zu,rfl⟩ ((x15.trans x20).trans x38)
 have hE:=(hR.done (by have:=h18';omega)).1
 refine zx ?_
 have hq0:out=M.hist p (M.runs r p moves):=by first|(rw[hE];exact hO)|(rw[hE];exact hGn)
 have hq1:gains=M.gains (M.runs r p moves):=by first|(rw[hE];exact hO)|(rw[hE];exact hGn)
 refine zS<|Qm rfl<|Qm rfl<|Qa rfl<|Qa rfl<|JL.nil ?_
 exact zro (x11.trans x15)
theorem zq78(g:M.Gam){v_g:Value}{w:World}(h_g:(Ty.ref (cGame g)).ok w v_g)(r0:g.start.pits.length<=4194304:=by exact om_)(r1:g.start.stores.length<=4194304:=by exact om_)(r2:g.moves.length<=4194304:=by exact om_)(r3:g.now.pits.length<=4194304:=by exact om_)(r4:g.now.stores.length<=4194304:=by exact om_):RetV Tryz.prog 75 [v_g] w (.bool (M.okG g)):=by
 revert v_g;apply opn
 intro b6 o6 A1 c1 h1 bl1 bh1 A2 c2 h2 bl2 bh2 A3 c3 h3 bl3 bh3 A4 c4 h4 bl4 bh4 A5 c5 h5 bl5 bh5 hr6
 refine enter @Tryz.func75 @Tryz.ntmps75 rfl rfl ?_
 refine zent ?_
 refine zS<|Qa rfl<|zJ<|Js.seq ?_
 refine zdr [] ?_
 refine jM 0 rfl rfl ?_
 refine jN 1 rfl rfl ?_
 refine jF 2 a1u rfl rfl ?_
 refine jM 3 rfl rfl ?_
 refine jN 4 rfl rfl ?_
 refine jF 5 a2l rfl rfl ?_
 refine y1 6 ?_
 refine yv rfl rfl (λw hw=>zq25 g.rules g.start (ok_ hw) (ok_ hw)) ?_
 refine JH.p 7 rfl (p_not rfl) ?_
 refine jM 8 rfl rfl ?_
 refine JH.pg 9 rfl (Gd.f1 rfl rfl rfl) (λhc=>a0e rfl) ?_
 refine JH.pg 10 rfl (Gd.f1 rfl rfl rfl) (λhc=>a0n (gvt rfl hc)) ?_
 refine JH.pg 11 rfl (Gd.f1 rfl rfl rfl) (λhc=>a0b a0x.h (gvt rfl hc)) ?_
 refine JH.wg 12 rfl (Gd.f1 rfl rfl rfl) (λhc os' u' hv=>a0c ty_26.h (gvt rfl hc) (Mem.pub ((hr6.vis hv) 12 _ rfl))) ?_
 refine JH.pg 13 rfl (Gd.f1 rfl rfl rfl) (λhc=>p_len el_26 (gvt rfl hc)) ?_
 refine JH.pg 14 rfl (Gd.f1 rfl rfl rfl) (λhc=>p_gtr (gvt rfl hc) rfl) ?_
 refine JH.p 15 rfl (a0j rfl rfl rfl) ?_
 refine jM 16 rfl rfl ?_
 refine JH.pg 17 rfl (Gd.f1 rfl rfl rfl) (λhc=>a0e rfl) ?_
 refine JH.pg 18 rfl (Gd.f1 rfl rfl rfl) (λhc=>a0n (gvt rfl hc)) ?_
 refine JH.pg 19 rfl (Gd.f1 rfl rfl rfl) (λhc=>a0b a4r.h (gvt rfl hc)) ?_
 refine JH.wg 20 rfl (Gd.f1 rfl rfl rfl) (λhc os' u' hv=>a0c ty_2.h (gvt rfl hc) (Mem.pub ((hr6.vis hv) 16 _ rfl))) ?_
 refine y1 21 ?_
 refine JHo.ge rfl (Gd.f1 rfl rfl rfl) (λhc=>a2h fn_110.h (a1o (gvt rfl hc) rfl rfl) (λw hw=>zq3 g.resigned (-1) 1)) ?_
 refine JH.pg 22 rfl (Gd.f1 rfl rfl rfl) (λhc=>p_not (gvt rfl hc)) ?_
 refine JH.p 23 rfl (a0j rfl rfl rfl) ?_
 refine yd ?_
 refine zi (λh7 h7'=>?_) λh7 h7'=>?_
 ·refine zS<|Qa rfl<|JL.nil ?_
  refine zR (Up.refl _ _) ?_
  exact congrArg (λb=>Ending.returned (.bool b)) (M.okG_no (by simpa[or_assoc] using h7)).symm
 have ho:M.okP g.rules g.start=true/\(g.moves.length:Int)<=120/\M.betw g.resigned (-1) 1=true:=by simpa[and_assoc] using h7
 have hl3:=M.a2a (M.a4b _ _ ho.1 (M.b0p g.moves _ ho.1))
 have hrl:=M.b9b g.rules g.moves g.start
 have hhl:=M.a5x g.start (M.runs g.rules g.start g.moves)
 refine Js.skip<|Js.seq ?_
 refine zdr [] ?_
 refine jM 0 rfl rfl ?_
 refine jN 1 rfl rfl ?_
 refine jF 2 a1u rfl rfl ?_
 refine jM 3 rfl rfl ?_
 refine jN 4 rfl rfl ?_
 refine jF 5 a2l rfl rfl ?_
 refine jM 6 rfl rfl ?_
 refine jN 7 rfl rfl ?_
 refine jF 8 a0x rfl rfl ?_
 refine jW 9 ty_26 rfl rfl (λhv=>(hr6.vis hv) 12 _ rfl) ?_
 refine y1 10 ?_
 refine yp rfl rfl (λw hw=>zq40 g.rules g.start g.moves (ok_ hw) (ok_ hw) (ok_ hw)) ?_
 intro u8 x8 A9 c9 h9 bl9 bh9 A10 c10 h10 bl10 bh10
 refine jM 11 rfl rfl ?_
 refine JH.p 12 rfl (a0p rfl rfl) ?_
 refine JH.p 13 rfl (a0p rfl rfl) ?_
 refine jA 14 rfl rfl ?_
 refine jA 15 rfl rfl ?_
 refine yd ?_
 refine Js.seq ?_
 refine zdr [] ?_
 refine jM 0 rfl rfl ?_
 refine JH.p 1 rfl (p_len el_26 rfl) ?_
 refine jM 2 rfl rfl ?_
 refine jN 3 rfl rfl ?_
 refine jF 4 a0x rfl rfl ?_
 refine jW 5 ty_26 rfl rfl (λhv=>(hr6.vis (x8.vis.trans hv)) 12 _ rfl) ?_
 refine JH.p 6 rfl (p_len el_26 rfl) ?_
 refine JH.p 7 rfl (p_eql rfl rfl) ?_
 refine jM 8 rfl rfl ?_
 refine JH.pg 9 rfl (Gd.t1 rfl rfl rfl) (λhc=>a0e rfl) ?_
 refine JH.pg 10 rfl (Gd.t1 rfl rfl rfl) (λhc=>a0e rfl) ?_
 refine JH.pg 11 rfl (Gd.t1 rfl rfl rfl) (λhc=>p_len a3p (gvt rfl hc)) ?_
 refine JH.pg 12 rfl (Gd.t1 rfl rfl rfl) (λhc=>p_sub (gvt rfl hc) rfl (IntWalk.i64_in _ (oh_ hc))) ?_
 obtain⟨y11,hy11⟩:∃ x,(M.hist g.start (M.runs g.rules g.start g.moves))[((((M.hist g.start (M.runs g.rules g.start g.moves)).length):Int) - 1).toNat]?=some x:=⟨_,List.getElem?_eq_getElem (by omega)⟩
 obtain⟨b11,o11,A11_0,c11_0,A11_1,c11_1,he11,hr11,h11_0,h11_1,bl11_0,bh11_0,bl11_1,bh11_1⟩:=a7i h9 hy11
 refine JH.pg 13 rfl (Gd.t1 rfl rfl rfl) (λhc=>a0a a3p (gvt rfl hc) (gvt rfl hc) (oh_ hc) (oh_ hc) he11) ?_
 refine JH.pg 14 rfl (Gd.t1 rfl rfl rfl) (λhc=>a0e rfl) ?_
 refine JH.pg 15 rfl (Gd.t1 rfl rfl rfl) (λhc=>a0n (gvt rfl hc)) ?_
 refine JH.pg 16 rfl (Gd.t1 rfl rfl rfl) (λhc=>a0b a1r.h (gvt rfl hc)) ?_
 refine y1 17 ?_
 refine JHo.ge rfl (Gd.t1 rfl rfl rfl) (λhc=>a2h fn_77.h (a2d (gvt rfl hc) (gvt rfl hc)) (λw hw=>zq33 y11 g.now (ok_ hw) (ok_ hw) (r0:=(M.a9l (M.a4i g.start (M.runs g.rules g.start g.moves)) hy11 (by omega) hl3).1) (r1:=(M.a9l (M.a4i g.start (M.runs g.rules g.start g.moves)) hy11 (by omega) hl3).2) (r2:=(oh_ hc)) (r3:=(oh_ hc)))) ?_
 refine JH.p 18 rfl (a0d rfl rfl rfl) ?_
 refine jA 19 rfl rfl ?_
 refine yd ?_
 refine zR x8 ?_
 simp only[outV,M.a8g];rw[M.okG_spec ho.1 ho.2.1 ho.2.2 (by assumption) (by omega)]
theorem zq138(r:M.Rul){v_r:Value}(p:M.Pos){v_p:Value}{w:World}(h_r:(Ty.ref (cRules r)).ok w v_r)(h_p:(Ty.ref (cPosition p)).ok w v_p)(r0:M.okP r p=true:=by exact om_):Ret Tryz.prog 191 [v_r,v_p] w (Ty.sl 109 6 (M.results r p).length (lResult (M.results r p))):=by
 obtain⟨g1,g2,g3,g4,g5,g6,g7⟩:=M.a0y r0
 revert v_r;apply opn
 intro b1 o1 hr1
 revert v_p;apply opn
 intro b4 o4 A2 c2 h2 bl2 bh2 A3 c3 h3 bl3 bh3 hr4
 refine enter @Tryz.func191 @Tryz.ntmps191 rfl rfl ?_
 refine zent ?_
 refine zS<|Qa rfl<|zN<|zbs λb5=>?_
 refine Qa rfl<|zJ<|zS<|Qa rfl<|JL.nil<|Js.block ?_
 refine Js.vals (Ts:=lResult []) (vs:=[]) (λw=>rfl) ?_
 refine zl [0,1] (λF U l os u m=>∃ (k:Nat) (acc:List M.Res) (A7_5:Option Addr) (c7_5:Nat) (g7_5:List Nat) (vs7_5:List Value) (fl7_5:List Nat),l=F [(5,.slice A7_5 acc.length c7_5),(6,.int .i64 (k:Int))]/\os=U [some (ownC (lResult acc) vs7_5 fl7_5),some (rowO 109 6 (.slice A7_5 acc.length c7_5) acc.length vs7_5 g7_5)]/\(acc=M.resultsTo r p k)/\(k<=r.pits)/\(acc.length<=c7_5)/\(c7_5<=9223372036854775807)/\m=(r.pits - k).toNat) ⟨0,[],_,_,_,_,_,rfl,rfl,by rfl,zt,zu,zu,rfl⟩ ?_
 rintro _ _ u7 _ ⟨k,acc,A7_5,c7_5,g7_5,vs7_5,fl7_5,rfl,rfl,hacc,hk,f7_2,f7_3,rfl⟩ x7
 refine zn ?_
 have hlen:=M.a3f (r:=r) (p:=p) k
 have hlacc:acc.length<=k:=by rw[hacc];exact hlen
 refine Js.seq<|zS<|Qm rfl<|Qm rfl<|Qc rfl<|Qf fh rfl<|QC ((hr1.vis x7.vis) 0 _ rfl) rfl<|Ql rfl rfl<|JL.nil ?_
 refine zi (λh8 h8'=>?_) λh8 h8'=>?_
 ·refine Js.skip<|Js.seq<|Js.block<|zS<|Qm rfl<|Qm rfl<|Qm rfl<|zc rfl (λw hw=>zq13 r p (k:Int) (ok_ hw) (ok_ hw)) ?_
  intro A11 c11 bl11 bh11 A12 c12 bl12 bh12
  refine Qm rfl<|Qx rfl rfl<|Qx rfl rfl<|za zeh λb13=>zw 0 rfl rfl rfl ?_
  refine Qa rfl<|zN<|Qm rfl<|Qe rfl rfl<|JL.nil ?_
  refine zi (λh14 h14'=>?_) λh14 h14'=>?_
  ·have hacc2:=(M.b0w (r:=r) (p:=p) (k:=k) (by simpa using h14)).symm
   refine Js.region<|Qm rfl<|Q9 0 rfl rfl ?_
   refine zbs λb15=>?_
   refine JL.e (a0g (i:=5) (n':=(acc++[((M.make r p (k:Int)).1)]).length) (vs':=vs7_5++[.int .i64 (((M.make r p (k:Int)).1).move),.int .i64 (((M.make r p (k:Int)).1).gain),.bool (((M.make r p (k:Int)).1).again),.slice A11 (((((M.make r p (k:Int)).1).next).pits).length) c11,.slice A12 (((((M.make r p (k:Int)).1).next).stores).length) c12,.int .i64 ((((M.make r p (k:Int)).1).next).player)]) a3a rfl rfl rfl rfl (a0k (i:=0) a2p rfl rfl) (by omega) (by omega) ln2_ (rfl)) ?_
   rintro v17 _ _ ⟨⟨g18,rfl⟩,rfl⟩ _
   refine JL.fact (row_form' (i:=5) rfl) (λhf19=>?_)
   obtain⟨A19,c19,rfl,bl19,bh19⟩:=hf19
   refine znl ?_
   refine Qa rfl<|JL.nil ?_
   refine Js.pack2 (i:=3) (j:=2) (cResult ((M.make r p (k:Int)).1)) [.int .i64 (((M.make r p (k:Int)).1).move),.int .i64 (((M.make r p (k:Int)).1).gain),.bool (((M.make r p (k:Int)).1).again),.slice A11 (((((M.make r p (k:Int)).1).next).pits).length) c11,.slice A12 (((((M.make r p (k:Int)).1).next).stores).length) c12,.int .i64 ((((M.make r p (k:Int)).1).next).player)] rfl rfl (λw h1 h2=>a6f (a3q h1 rfl) (a3q h2 rfl)) (λf20=>?_)
   refine Js.joinL (i:=3) (j:=0) (Vs:=lResult (acc++[((M.make r p (k:Int)).1)])) rfl rfl (a4w _ _) (λf21=>?_)
   refine zn ?_
   refine Js.blockEnd<|Js.region<|Qm rfl<|Qp rfl rfl<|Qa rfl<|JL.nil ?_
   refine zd [0,2] rfl λu22 x22=>?_
   exact zag ⟨k + 1,acc++[((M.make r p (k:Int)).1)],_,_,_,_,_,rfl,rfl,by rw[hacc];exact hacc2,zt,zu,zu,rfl⟩ (x7.trans x22)
  have hacc2:=(M.b2k (r:=r) (p:=p) (k:=k) (by simpa using h14)).symm
  refine Js.skip<|Js.blockEnd<|Js.region<|Qm rfl<|Qp rfl rfl<|Qa rfl<|JL.nil ?_
  refine zd [3,3] rfl λu23 x23=>?_
  exact zag ⟨k + 1,acc,_,_,_,_,_,rfl,rfl,by rw[hacc];exact hacc2,zt,zu,zu,rfl⟩ (x7.trans x23)
 have hR:acc=M.results r p:=by rw[hacc];unfold M.results;rw[show k=r.pits.toNat by have:=h8';omega]
 refine zx ?_
 have hq0:acc=M.results r p:=by exact hR
 refine zS<|Qm rfl<|Qa rfl<|JL.nil ?_
 exact zro x7
theorem zq125(g:M.Gam){v_g:Value}{w:World}(h_g:(Ty.agg (cGame g)).ok w v_g)(r0:g.start.pits.length<=4194304:=by exact om_)(r1:g.start.stores.length<=4194304:=by exact om_)(r2:g.moves.length<=4194304:=by exact om_)(r3:g.now.pits.length<=4194304:=by exact om_)(r4:g.now.stores.length<=4194304:=by exact om_):Ret Tryz.prog 37 [v_g] w (Ty.tup [Ty.ints 2 (M.gainsR g),Ty.int (M.okC g)]):=by
 revert v_g;apply opn
 intro A1 c1 h1 bl1 bh1 A2 c2 h2 bl2 bh2 A3 c3 h3 bl3 bh3 A4 c4 h4 bl4 bh4 A5 c5 h5 bl5 bh5
 refine enter @Tryz.func37 @Tryz.ntmps37 rfl rfl ?_
 refine zent ?_
 refine zS<|zb rfl λb6=>Qa rfl<|Qa rfl<|zJ<|zS<|zv rfl (λw hw=>zq78 g (ok_ hw))<|Qt rfl<|JL.nil ?_
 refine zi (λh7 h7'=>?_) λh7 h7'=>?_
 ·have hno:M.okG g=false:=by simpa using h7
  have hC:=M.okC_no hno
  have hE:=M.gainsR_no hno
  have hq0:[]=M.gainsR g:=by first|(rw[hE];done)|(rw[hC];done)
  have hq1:1=M.okC g:=by first|(rw[hE];done)|(rw[hC];done)
  refine zS<|Qa rfl<|Qa rfl<|JL.nil ?_
  exact zro (Up.refl _ _)
 have hok:M.okG g=true:=by simpa using h7
 obtain⟨k1,k2,k3,k4,k5,k6,k7,k8,k9⟩:=M.a0u hok
 have hnow:=M.b2z hok
 have k10:=M.a2a hnow
 have k11:=M.a2a k1
 (have k12:(M.playedP g).length=g.moves.length + 1:=by rw[k6,M.a5x,k8])
 have k13:(M.playedR g).length=g.moves.length:=by rw[k7,k8]
 have hC:=M.okC_yes hok
 have hE:M.gainsR g=M.gains (M.runs g.rules g.start g.moves):=by rw[M.b1w hok,k7]
 refine Js.skip<|zS<|Qf fh rfl<|Qf fh rfl<|Qf fh rfl<|Q0 0 rfl rfl rfl<|zcs rfl (λw hw=>zq40 g.rules g.start g.moves ⟨_,_,[.int .i64 g.rules.pits,.int .i64 g.rules.seeds,.bool g.rules.stores,.bool g.rules.skip,.bool g.rules.relay,.bool g.rules.feed,.bool g.rules.again,.int .i64 g.rules.capture,.int .i64 g.rules.slam],rfl,⟨rfl,rfl,rfl,rfl,rfl,rfl,rfl,rfl,rfl,trivial⟩,Mem.boxR (i:=0) rfl 0 9 _ hw⟩ ⟨_,_,[.slice A1 g.start.pits.length c1,.slice A2 g.start.stores.length c2,.int .i64 g.start.player],rfl,⟨(ok_ hw),(ok_ hw),rfl,trivial⟩,Mem.boxR (i:=0) rfl 9 3 _ hw⟩ (ok_ hw)) ?_
 intro A9 c9 vs9 f9 bl9 bh9 A10 c10 bl10 bh10
 have hq0:(M.gains (M.runs g.rules g.start g.moves))=M.gainsR g:=by first|(rw[hE];done)|(rw[hC];done)
 have hq1:0=M.okC g:=by first|(rw[hE];done)|(rw[hC];done)
 refine Qm rfl<|Qx rfl rfl<|Qx rfl rfl<|Qa rfl<|Qa rfl<|zN<|Qm rfl<|Qa rfl<|Qa rfl<|JL.nil ?_
 exact zro (Up.refl _ _)
theorem zq139(g:M.Gam){v_g:Value}{w:World}(h_g:(Ty.ref (cGame g)).ok w v_g)(r0:g.start.pits.length<=4194304:=by exact om_)(r1:g.start.stores.length<=4194304:=by exact om_)(r2:g.moves.length<=4194304:=by exact om_)(r3:g.now.pits.length<=4194304:=by exact om_)(r4:g.now.stores.length<=4194304:=by exact om_):Ret Tryz.prog 187 [v_g] w (Ty.agg (cGame g)):=by
 revert v_g;apply opn
 intro b6 o6 A1 c1 h1 bl1 bh1 A2 c2 h2 bl2 bh2 A3 c3 h3 bl3 bh3 A4 c4 h4 bl4 bh4 A5 c5 h5 bl5 bh5 hr6
 refine enter @Tryz.func187 @Tryz.ntmps187 rfl rfl ?_
 refine zent ?_
 refine zS<|za zeh λb7=>zJ ?_
 refine zdr [22] ?_
 refine jM 0 rfl rfl ?_
 refine jN 1 rfl rfl ?_
 refine jF 2 a1u rfl rfl ?_
 refine JH.w 3 rfl (λos' u' hv=>LS 0 (hr6.vis hv) rfl) ?_
 refine jM 4 rfl rfl ?_
 refine jN 5 rfl rfl ?_
 refine jF 6 a2l rfl rfl ?_
 refine jM 8 rfl rfl ?_
 refine jN 9 rfl rfl ?_
 refine jF 10 a0x rfl rfl ?_
 refine jW 11 ty_26 rfl rfl (λhv=>(hr6.vis hv) 12 _ rfl) ?_
 refine jM 13 rfl rfl ?_
 refine jN 14 rfl rfl ?_
 refine jF 15 a1r rfl rfl ?_
 refine jM 17 rfl rfl ?_
 refine jN 18 rfl rfl ?_
 refine jF 19 a4r rfl rfl ?_
 refine jW 20 ty_2 rfl rfl (λhv=>(hr6.vis hv) 16 _ rfl) ?_
 refine y1 7 ?_
 refine yc rfl rfl (λw hw=>zq10 g.start (ok_ hw)) ?_
 intro A9 c9 bl9 bh9 A10 c10 bl10 bh10
 refine y1 12 ?_
 refine ycs rfl rfl (λw hw=>zq4 g.moves (ok_ hw)) ?_
 intro A11 c11 bl11 bh11
 refine y1 16 ?_
 refine yc rfl rfl (λw hw=>zq10 g.now (ok_ hw)) ?_
 intro A13 c13 bl13 bh13 A14 c14 bl14 bh14
 refine JH.p 21 rfl (q_bld) ?_
 refine y1 22 ?_
 refine yst rfl rfl rfl ?_
 refine yd ?_
 exact zro (Up.refl _ _)
theorem zq21(g:M.Gam){v_g:Value}(move:Int){w:World}(h_g:(Ty.ref (cGame g)).ok w v_g)(r0:g.start.pits.length<=4194304:=by exact om_)(r1:g.start.stores.length<=4194304:=by exact om_)(r2:g.moves.length<=4194304:=by exact om_)(r3:g.now.pits.length<=4194304:=by exact om_)(r4:g.now.stores.length<=4194304:=by exact om_)(r5:g.moves.length<=120:=by exact om_):Ret Tryz.prog 159 [v_g,.int .i64 move] w (Ty.tup [Ty.agg (cGame ((M.play g move).1)),Ty.int ((M.play g move).2)]):=by
 revert v_g;apply opn
 intro b6 o6 A1 c1 h1 bl1 bh1 A2 c2 h2 bl2 bh2 A3 c3 h3 bl3 bh3 A4 c4 h4 bl4 bh4 A5 c5 h5 bl5 bh5 hr6
 refine enter @Tryz.func159 @Tryz.ntmps159 rfl rfl ?_
 refine zent ?_
 refine zS<|za zeh λb7=>Qa rfl<|zJ<|zS<|Qm rfl<|Qc rfl<|Qf fh rfl<|QC (hr6 16 _ rfl) rfl<|Qh rfl rfl<|JL.nil ?_
 refine zi (λh8 h8'=>?_) λh8 h8'=>?_
 ·have hE:=M.a7d (g:=g) (move:=move) (by simpa using h8)
  have hq0:0=(((M.play g move).1).rules).pits:=rp_ hE
  have hq1:0=(((M.play g move).1).rules).seeds:=rp_ hE
  have hq2:false=(((M.play g move).1).rules).stores:=rp_ hE
  have hq3:false=(((M.play g move).1).rules).skip:=rp_ hE
  have hq4:false=(((M.play g move).1).rules).relay:=rp_ hE
  have hq5:false=(((M.play g move).1).rules).feed:=rp_ hE
  have hq6:false=(((M.play g move).1).rules).again:=rp_ hE
  have hq7:0=(((M.play g move).1).rules).capture:=rp_ hE
  have hq8:0=(((M.play g move).1).rules).slam:=rp_ hE
  have hq9:[]=(((M.play g move).1).start).pits:=rp_ hE
  have hq10:[]=(((M.play g move).1).start).stores:=rp_ hE
  have hq11:0=(((M.play g move).1).start).player:=rp_ hE
  have hq12:[]=((M.play g move).1).moves:=rp_ hE
  have hq13:[]=(((M.play g move).1).now).pits:=rp_ hE
  have hq14:[]=(((M.play g move).1).now).stores:=rp_ hE
  have hq15:0=(((M.play g move).1).now).player:=rp_ hE
  have hq16:0=((M.play g move).1).resigned:=rp_ hE
  have hq17:6=(M.play g move).2:=rp_ hE
  refine zS<|Qb ?_
  refine zw 0 rfl rfl rfl ?_
  refine Qa rfl<|JL.nil ?_
  exact zro (Up.refl _ _)
 have q1:¬ 0<=g.resigned:=by simpa using h8
 refine Js.skip<|Js.seq<|zS<|Qm rfl<|Qc rfl<|Qf fh rfl<|QC (hr6 12 _ rfl) rfl<|Qz rfl<|Qh rfl rfl<|JL.nil ?_
 refine zi (λh9 h9'=>?_) λh9 h9'=>?_
 ·have hE:=M.a8h (move:=move) q1 (by have:=h9';omega)
  have hq0:0=(((M.play g move).1).rules).pits:=rp_ hE
  have hq1:0=(((M.play g move).1).rules).seeds:=rp_ hE
  have hq2:false=(((M.play g move).1).rules).stores:=rp_ hE
  have hq3:false=(((M.play g move).1).rules).skip:=rp_ hE
  have hq4:false=(((M.play g move).1).rules).relay:=rp_ hE
  have hq5:false=(((M.play g move).1).rules).feed:=rp_ hE
  have hq6:false=(((M.play g move).1).rules).again:=rp_ hE
  have hq7:0=(((M.play g move).1).rules).capture:=rp_ hE
  have hq8:0=(((M.play g move).1).rules).slam:=rp_ hE
  have hq9:[]=(((M.play g move).1).start).pits:=rp_ hE
  have hq10:[]=(((M.play g move).1).start).stores:=rp_ hE
  have hq11:0=(((M.play g move).1).start).player:=rp_ hE
  have hq12:[]=((M.play g move).1).moves:=rp_ hE
  have hq13:[]=(((M.play g move).1).now).pits:=rp_ hE
  have hq14:[]=(((M.play g move).1).now).stores:=rp_ hE
  have hq15:0=(((M.play g move).1).now).player:=rp_ hE
  have hq16:0=((M.play g move).1).resigned:=rp_ hE
  have hq17:5=(M.play g move).2:=rp_ hE
  refine zS<|Qb ?_
  refine zw 0 rfl rfl rfl ?_
  refine Qa rfl<|JL.nil ?_
  exact zro (Up.refl _ _)
 have q2:g.moves.length≠120:=by have:=h9';omega
 refine Js.skip<|Js.seq ?_
 refine zk [0,1,4] (λF U l os u=>∃ (b13:Nat) (A11:Option Addr) (c11:Nat) (A12:Option Addr) (c12:Nat),l=F [(6,.pointer (some ⟨b13,0,none⟩)),(7,.int .i64 ((M.make g.rules g.now move).2))]/\os=[boxO b13 [.int .i64 (((M.make g.rules g.now move).1).move),.int .i64 (((M.make g.rules g.now move).1).gain),.bool (((M.make g.rules g.now move).1).again),.slice A11 (((((M.make g.rules g.now move).1).next).pits).length) c11,.slice A12 (((((M.make g.rules g.now move).1).next).stores).length) c12,.int .i64 ((((M.make g.rules g.now move).1).next).player)] 109]++U []/\(((((M.make g.rules g.now move).1).next).pits).length<=c11)/\(c11<=9223372036854775807)/\((Ty.ints 2 ((((M.make g.rules g.now move).1).next).pits)).ok u (.slice A11 (((((M.make g.rules g.now move).1).next).pits).length) c11))/\(((((M.make g.rules g.now move).1).next).stores).length<=c12)/\(c12<=9223372036854775807)/\((Ty.ints 2 ((((M.make g.rules g.now move).1).next).stores)).ok u (.slice A12 (((((M.make g.rules g.now move).1).next).stores).length) c12))) ?_ ?_
 ·refine zdr [12] ?_
  refine jM 0 rfl rfl ?_
  refine jN 1 rfl rfl ?_
  refine jF 2 a1u rfl rfl ?_
  refine jM 3 rfl rfl ?_
  refine jN 4 rfl rfl ?_
  refine jF 5 a1r rfl rfl ?_
  refine jM 6 rfl rfl ?_
  refine y2 7 11 ?_ ?_
  ·refine yp rfl rfl (λw hw=>zq13 g.rules g.now move (ok_ hw) (ok_ hw)) ?_
   intro u19 x19 A20 c20 h20 bl20 bh20 A21 c21 h21 bl21 bh21
   refine jM 8 rfl rfl ?_
   refine JH.p 9 rfl (a0p rfl rfl) ?_
   refine JH.p 10 rfl (a0p rfl rfl) ?_
   refine y1 11 ?_
   refine ya rfl λb22=>?_
   refine y1 12 ?_
   refine yst rfl rfl rfl ?_
   refine jA 13 rfl rfl ?_
   refine yd ?_
   exact zm ⟨_,_,_,_,_,rfl,rfl,zt,zt,h20,zt,zt,h21⟩ x19
  refine ya rfl λb23=>?_
  refine y1 7 ?_
  refine yp rfl rfl (λw hw=>zq13 g.rules g.now move (ok_ hw) (ok_ hw)) ?_
  intro u24 x24 A25 c25 h25 bl25 bh25 A26 c26 h26 bl26 bh26
  refine jM 8 rfl rfl ?_
  refine JH.p 9 rfl (a0p rfl rfl) ?_
  refine JH.p 10 rfl (a0p rfl rfl) ?_
  refine y1 12 ?_
  refine yst rfl rfl rfl ?_
  refine jA 13 rfl rfl ?_
  refine yd ?_
  exact zm ⟨_,_,_,_,_,rfl,rfl,zt,zt,h25,zt,zt,h26⟩ x24
 rintro _ _ u18 ⟨b13,A11,c11,A12,c12,rfl,rfl,f18_0,f18_1,f18_2,f18_3,f18_4,f18_5⟩ x18
 refine zn ?_
 refine Js.seq<|zS<|Qm rfl<|Qd rfl rfl<|JL.nil ?_
 refine zi (λh27 h27'=>?_) λh27 h27'=>?_
 ·have hE:=M.a8o q1 q2 (move:=move) (by simpa using h27)
  have hq0:0=(((M.play g move).1).rules).pits:=rp_ hE
  have hq1:0=(((M.play g move).1).rules).seeds:=rp_ hE
  have hq2:false=(((M.play g move).1).rules).stores:=rp_ hE
  have hq3:false=(((M.play g move).1).rules).skip:=rp_ hE
  have hq4:false=(((M.play g move).1).rules).relay:=rp_ hE
  have hq5:false=(((M.play g move).1).rules).feed:=rp_ hE
  have hq6:false=(((M.play g move).1).rules).again:=rp_ hE
  have hq7:0=(((M.play g move).1).rules).capture:=rp_ hE
  have hq8:0=(((M.play g move).1).rules).slam:=rp_ hE
  have hq9:[]=(((M.play g move).1).start).pits:=rp_ hE
  have hq10:[]=(((M.play g move).1).start).stores:=rp_ hE
  have hq11:0=(((M.play g move).1).start).player:=rp_ hE
  have hq12:[]=((M.play g move).1).moves:=rp_ hE
  have hq13:[]=(((M.play g move).1).now).pits:=rp_ hE
  have hq14:[]=(((M.play g move).1).now).stores:=rp_ hE
  have hq15:0=(((M.play g move).1).now).player:=rp_ hE
  have hq16:0=((M.play g move).1).resigned:=rp_ hE
  have hq17:((M.make g.rules g.now move).2)=(M.play g move).2:=rp_ hE
  refine zS<|Qb ?_
  refine Qm rfl<|zw 1 rfl rfl rfl ?_
  refine Qa rfl<|JL.nil ?_
  exact zro x18
 have hz:(M.make g.rules g.now move).2=0:=by simpa using h27
 have hE:=M.a6w q1 q2 hz
 have hl2:=M.a2a (M.a2n hz).2.2.2.1
 refine Js.skip<|zS<|Qm rfl<|zc rfl (λw hw=>zq139 g (ok_ hw)) ?_
 intro A29 c29 bl29 bh29 A30 c30 bl30 bh30 A31 c31 bl31 bh31 A32 c32 bl32 bh32 A33 c33 bl33 bh33
 refine za zeh λb34=>zw 0 rfl rfl rfl ?_
 refine zN<|Qf fh rfl<|Q0 0 rfl rfl rfl<|Qm rfl<|zbs λb35=>?_
 refine JL.e (a0g (i:=4) (n':=(g.moves++[move]).length) (vs':=ints_ (g.moves++[move])) el_26 rfl rfl rfl rfl (a0k (i:=0) a1h rfl rfl) (by omega) (by omega) ln2_ (by simp[ints_])) ?_
 rintro v37 _ _ ⟨⟨g38,rfl⟩,rfl⟩ _
 refine JL.fact (row_form' (i:=4) rfl) (λhf39=>?_)
 obtain⟨A39,c39,rfl,bl39,bh39⟩:=hf39
 refine znl ?_
 refine Qf fh rfl<|zw 1 rfl rfl rfl ?_
 refine zN<|Qf fh rfl<|zc rfl (λw hw=>zq10 (((M.make g.rules g.now move).1).next) ⟨_,_,[.slice A11 (((((M.make g.rules g.now move).1).next).pits).length) c11,.slice A12 (((((M.make g.rules g.now move).1).next).stores).length) c12,.int .i64 ((((M.make g.rules g.now move).1).next).player)],rfl,⟨(ok_ hw),(ok_ hw),rfl,trivial⟩,Mem.boxR (i:=7) rfl 3 3 _ hw⟩) ?_
 intro A41 c41 bl41 bh41 A42 c42 bl42 bh42
 have hq0:g.rules.pits=(((M.play g move).1).rules).pits:=rp_ hE
 have hq1:g.rules.seeds=(((M.play g move).1).rules).seeds:=rp_ hE
 have hq2:g.rules.stores=(((M.play g move).1).rules).stores:=rp_ hE
 have hq3:g.rules.skip=(((M.play g move).1).rules).skip:=rp_ hE
 have hq4:g.rules.relay=(((M.play g move).1).rules).relay:=rp_ hE
 have hq5:g.rules.feed=(((M.play g move).1).rules).feed:=rp_ hE
 have hq6:g.rules.again=(((M.play g move).1).rules).again:=rp_ hE
 have hq7:g.rules.capture=(((M.play g move).1).rules).capture:=rp_ hE
 have hq8:g.rules.slam=(((M.play g move).1).rules).slam:=rp_ hE
 have hq9:g.start.pits=(((M.play g move).1).start).pits:=rp_ hE
 have hq10:g.start.stores=(((M.play g move).1).start).stores:=rp_ hE
 have hq11:g.start.player=(((M.play g move).1).start).player:=rp_ hE
 have hq12:(g.moves++[move])=((M.play g move).1).moves:=rp_ hE
 have hq13:((((M.make g.rules g.now move).1).next).pits)=(((M.play g move).1).now).pits:=rp_ hE
 have hq14:((((M.make g.rules g.now move).1).next).stores)=(((M.play g move).1).now).stores:=rp_ hE
 have hq15:((((M.make g.rules g.now move).1).next).player)=(((M.play g move).1).now).player:=rp_ hE
 have hq16:g.resigned=((M.play g move).1).resigned:=rp_ hE
 have hq17:0=(M.play g move).2:=rp_ hE
 refine Qf fh rfl<|zw 3 rfl rfl rfl ?_
 refine zN<|Q9 3 rfl rfl ?_
 refine zw 10 rfl rfl rfl ?_
 refine Qa rfl<|JL.nil ?_
 exact zro x18
theorem zq48(code:Nat){v_code:Value}{w:World}(h_code:(Ty.bytes 5 code).ok w v_code):Ret Tryz.prog 48 [v_code] w (Ty.box 141 [Ty.val v_code,Ty.int 0,Ty.val (.int .u64 0)]):=by
 revert v_code;apply opn
 intro A1 c1 h1 bl1 bh1
 have h_code:=h1
 refine enter @Tryz.func48 @Tryz.ntmps48 rfl rfl ?_
 refine zent ?_
 refine zS<|Qa rfl<|zN<|Qm rfl<|Qb ?_
 refine zb rfl λb2=>Qa rfl<|JL.nil ?_
 exact zro (Up.refl _ _)
theorem zq79(c1c:Nat)(s_at s_seed:Int){As_0:Option Addr}{cs_0 bs:Nat}{w:World}(hb:Bw w [boxO bs [.slice As_0 c1c cs_0,.int .i64 s_at,.int .u64 s_seed] 141])(hps_0:(Ty.bytes 5 c1c).ok (offW w (([boxO bs [.slice As_0 c1c cs_0,.int .i64 s_at,.int .u64 s_seed] 141]:List Own).flatMap (·.fp))) (.slice As_0 c1c cs_0))(r0:0<=s_at:=by exact om_)(r1:s_at<=999999999:=by exact om_)(r2:c1c<=1048576:=by exact om_):RetB Tryz.prog 113 [.pointer (some ⟨bs,0,none⟩)] w [boxO bs [.slice As_0 c1c cs_0,.int .i64 s_at,.int .u64 s_seed] 141] (λv bs'=>∃ (KX AT SD:Int),v=.int .i64 KX/\bs'=[boxO bs [.slice As_0 c1c cs_0,.int .i64 AT,.int .u64 SD] 141]/\(0<=KX)/\(KX<=255)/\(s_at<=AT)/\(AT<=s_at + 1)):=by
 refine enterB hb @Tryz.func113 @Tryz.ntmps113 rfl rfl ?_
 refine zent ?_
 refine Js.trashE ?_
 refine zn ?_
 refine zS<|Qa rfl<|zN<|Qa rfl<|zJ<|Js.seq ?_
 refine zdr [] ?_
 refine jM 0 rfl rfl ?_
 refine jN 1 rfl rfl ?_
 refine jF 2 a6z rfl rfl ?_
 refine jB 3 0 ty_3 rfl rfl rfl rfl ?_
 refine jM 4 rfl rfl ?_
 refine jN 5 rfl rfl ?_
 refine jF 6 a7n rfl rfl ?_
 refine jB 7 0 ty_22 rfl rfl rfl rfl ?_
 refine JH.p 8 rfl (p_len el_22 rfl) ?_
 refine JH.p 9 rfl (p_lss rfl rfl) ?_
 refine yd ?_
 refine zi (λh1 h1'=>?_) λh1 h1'=>?_
 ·refine zdr [] ?_
  refine jM 0 rfl rfl ?_
  refine jN 1 rfl rfl ?_
  refine jF 2 a7n rfl rfl ?_
  refine jB 3 0 ty_22 rfl rfl rfl rfl ?_
  refine jM 4 rfl rfl ?_
  refine jN 5 rfl rfl ?_
  refine jF 6 a6z rfl rfl ?_
  refine jB 7 0 ty_3 rfl rfl rfl rfl ?_
  obtain⟨b2,o2,z2,he2,hc2,hz2⟩:=c0r hps_0 (i:=s_at.toNat) (by omega)
  refine jI 8 el_22 rfl rfl rfl he2 ?_
  refine jW 9 ty_5 rfl rfl hc2.vis ?_
  refine y1 10 ?_
  refine JHo.q rfl (OpP.q (a4u @Tryz.underlying5 @Tryz.underlying3 rfl (IntWalk.i64_in _ (by omega)))) ?_
  refine jA 11 rfl rfl ?_
  refine yd ?_
  refine zS<|Qm rfl<|Qc rfl<|Qf fh rfl<|Q0 0 rfl rfl rfl<|Qp rfl rfl<|Qc rfl<|Qf fh rfl<|zw 0 rfl rfl rfl ?_
  refine zN<|Qm rfl<|Qm rfl<|Qc rfl<|Qf fh rfl<|Q0 0 rfl rfl rfl<|Qq (p_mul rfl rfl rfl)<|Qm rfl<|Qq (a4u @Tryz.underlying3 @Tryz.underlying139 rfl rfl)<|Qq (p_add rfl rfl rfl)<|Qq (p_add rfl rfl rfl)<|Qc rfl<|Qf fh rfl<|zw 0 rfl rfl rfl ?_
  refine zJ<|Js.seq ?_
  refine zdr [] ?_
  refine jM 0 rfl rfl ?_
  refine jN 1 rfl rfl ?_
  refine jF 2 a6z rfl rfl ?_
  refine jB 3 0 ty_3 rfl rfl rfl rfl ?_
  refine jM 4 rfl rfl ?_
  refine jN 5 rfl rfl ?_
  refine jF 6 a7n rfl rfl ?_
  refine jB 7 0 ty_22 rfl rfl rfl rfl ?_
  refine JH.p 8 rfl (p_len el_22 rfl) ?_
  refine JH.p 9 rfl (p_leq rfl rfl) ?_
  refine yd ?_
  refine zi (λh3 h3'=>?_) λh3 h3'=>?_
  ·refine zS<|Qm rfl<|Qa rfl<|JL.nil ?_
   refine zrb [0] hb (Up.refl _ _) ?_
   exact⟨(z2),((s_at + 1)),((IntKind.u64.wrap ((IntKind.u64.wrap ((IntKind.u64.wrap (s_seed * 6364136223846793005)) + (IntKind.u64.wrap z2))) + 1442695040888963407))),rfl,rfl,zt,zt,zt,zt⟩
  have had4:=c0b ((IntKind.u64.wrap ((IntKind.u64.wrap ((IntKind.u64.wrap (s_seed * 6364136223846793005)) + (IntKind.u64.wrap z2))) + 1442695040888963407)).fdiv (2 ^ (min (40:Int).toNat IntKind.u64.bits)))
  refine Js.skip<|zS<|Qm rfl<|Qc rfl<|Qf fh rfl<|Q0 0 rfl rfl rfl<|Qq (p_shr rfl rfl (by decide))<|Qq (p_and rfl rfl)<|Qq (a4u @Tryz.underlying139 @Tryz.underlying2 rfl (IntWalk.i64_in _ (by omega)))<|Qa rfl<|JL.nil ?_
  refine zrb [0] hb (Up.refl _ _) ?_
  exact⟨(andI .u64 ((IntKind.u64.wrap ((IntKind.u64.wrap ((IntKind.u64.wrap (s_seed * 6364136223846793005)) + (IntKind.u64.wrap z2))) + 1442695040888963407)).fdiv (2 ^ (min (40:Int).toNat IntKind.u64.bits))) 255),((s_at + 1)),((IntKind.u64.wrap ((IntKind.u64.wrap ((IntKind.u64.wrap (s_seed * 6364136223846793005)) + (IntKind.u64.wrap z2))) + 1442695040888963407))),rfl,rfl,zt,zt,zt,zt⟩
 refine Js.skip<|zS<|Qm rfl<|Qc rfl<|Qf fh rfl<|Q0 0 rfl rfl rfl<|Qp rfl rfl<|Qc rfl<|Qf fh rfl<|zw 0 rfl rfl rfl ?_
 refine zN<|Qm rfl<|Qm rfl<|Qc rfl<|Qf fh rfl<|Q0 0 rfl rfl rfl<|Qq (p_mul rfl rfl rfl)<|Qm rfl<|Qq (a4u @Tryz.underlying3 @Tryz.underlying139 rfl rfl)<|Qq (p_add rfl rfl rfl)<|Qq (p_add rfl rfl rfl)<|Qc rfl<|Qf fh rfl<|zw 0 rfl rfl rfl ?_
 refine zJ<|Js.seq ?_
 refine zdr [] ?_
 refine jM 0 rfl rfl ?_
 refine jN 1 rfl rfl ?_
 refine jF 2 a6z rfl rfl ?_
 refine jB 3 0 ty_3 rfl rfl rfl rfl ?_
 refine jM 4 rfl rfl ?_
 refine jN 5 rfl rfl ?_
 refine jF 6 a7n rfl rfl ?_
 refine jB 7 0 ty_22 rfl rfl rfl rfl ?_
 refine JH.p 8 rfl (p_len el_22 rfl) ?_
 refine JH.p 9 rfl (p_leq rfl rfl) ?_
 refine yd ?_
 refine zi (λh5 h5'=>?_) λh5 h5'=>?_
 ·refine zS<|Qm rfl<|Qa rfl<|JL.nil ?_
  refine zrb [0] hb (Up.refl _ _) ?_
  exact⟨(0),((s_at + 1)),((IntKind.u64.wrap ((IntKind.u64.wrap ((IntKind.u64.wrap (s_seed * 6364136223846793005)) + (IntKind.u64.wrap 0))) + 1442695040888963407))),rfl,rfl,zt,zt,zt,zt⟩
 have had6:=c0b ((IntKind.u64.wrap ((IntKind.u64.wrap ((IntKind.u64.wrap (s_seed * 6364136223846793005)) + (IntKind.u64.wrap 0))) + 1442695040888963407)).fdiv (2 ^ (min (40:Int).toNat IntKind.u64.bits)))
 refine Js.skip<|zS<|Qm rfl<|Qc rfl<|Qf fh rfl<|Q0 0 rfl rfl rfl<|Qq (p_shr rfl rfl (by decide))<|Qq (p_and rfl rfl)<|Qq (a4u @Tryz.underlying139 @Tryz.underlying2 rfl (IntWalk.i64_in _ (by omega)))<|Qa rfl<|JL.nil ?_
 refine zrb [0] hb (Up.refl _ _) ?_
 exact⟨(andI .u64 ((IntKind.u64.wrap ((IntKind.u64.wrap ((IntKind.u64.wrap (s_seed * 6364136223846793005)) + (IntKind.u64.wrap 0))) + 1442695040888963407)).fdiv (2 ^ (min (40:Int).toNat IntKind.u64.bits))) 255),((s_at + 1)),((IntKind.u64.wrap ((IntKind.u64.wrap ((IntKind.u64.wrap (s_seed * 6364136223846793005)) + (IntKind.u64.wrap 0))) + 1442695040888963407))),rfl,rfl,zt,zt,zt,zt⟩
theorem zq0(c1c:Nat)(s_at s_seed:Int){As_0:Option Addr}{cs_0:Nat}(n:Int){bs:Nat}{w:World}(hb:Bw w [boxO bs [.slice As_0 c1c cs_0,.int .i64 s_at,.int .u64 s_seed] 141])(hps_0:(Ty.bytes 5 c1c).ok (offW w (([boxO bs [.slice As_0 c1c cs_0,.int .i64 s_at,.int .u64 s_seed] 141]:List Own).flatMap (·.fp))) (.slice As_0 c1c cs_0))(r0:0<=s_at:=by exact om_)(r1:s_at<=999999998:=by exact om_)(r2:c1c<=1048576:=by exact om_)(r3:n<=1000000:=by exact om_):RetB Tryz.prog 57 [.pointer (some ⟨bs,0,none⟩),.int .i64 n] w [boxO bs [.slice As_0 c1c cs_0,.int .i64 s_at,.int .u64 s_seed] 141] (λv bs'=>∃ (KX AT SD:Int),v=.int .i64 KX/\bs'=[boxO bs [.slice As_0 c1c cs_0,.int .i64 AT,.int .u64 SD] 141]/\(0<=KX)/\(KX=0\/KX < n)/\(s_at<=AT)/\(AT<=s_at + 2)):=by
 refine enterB hb @Tryz.func57 @Tryz.ntmps57 rfl rfl ?_
 refine zent ?_
 refine Js.trashE ?_
 refine zn ?_
 refine zS<|Qa rfl<|zJ<|zS<|Qm rfl<|Qk rfl rfl<|JL.nil ?_
 refine zi (λh1 h1'=>?_) λh1 h1'=>?_
 ·refine zS<|Qa rfl<|JL.nil ?_
  refine zrb [0] hb (Up.refl _ _) ?_
  exact⟨(0),(s_at),(s_seed),rfl,rfl,zt,zt,zt,zt⟩
 refine Js.skip<|zS<|Qm rfl<|zBB 1 sp_ rfl (λw hb _ hw=>zq79 c1c s_at s_seed hb (ok_ hw)) ?_
 rintro _ _ G2 ⟨X2KX,X2AT,X2SD,rfl,rfl,hX2_0,hX2_1,hX2_2,hX2_3⟩
 refine znl ?_
 refine Qa rfl<|zJ<|zS<|Qm rfl<|Qg rfl rfl<|JL.nil ?_
 refine zi (λh3 h3'=>?_) λh3 h3'=>?_
 ·refine Js.region<|Qm rfl<|Qu rfl rfl<|Qm rfl<|zBB 1 sp_ rfl (λw hb _ hw=>zq79 c1c X2AT X2SD hb (ok_ hw)) ?_
  rintro _ _ G4 ⟨X4KX,X4AT,X4SD,rfl,rfl,hX4_0,hX4_1,hX4_2,hX4_3⟩
  refine znl ?_
  have hrn5:=Int.emod_nonneg ((X2KX * 256) + X4KX) (b:=n) (by omega)
  have hrl5:=Int.emod_lt_of_pos ((X2KX * 256) + X4KX) (show 0 < n by omega)
  refine Qp rfl rfl<|Qa rfl<|zN<|Qm rfl<|Qm rfl<|Qq (p_rem rfl rfl (by omega) (Int.tmod_eq_emod_of_nonneg (by omega)))<|Qa rfl<|JL.nil ?_
  refine zrb [0] hb (Up.refl _ _) ?_
  exact⟨(((X2KX * 256) + X4KX) % n),(X4AT),(X4SD),rfl,rfl,zt,zt,zt,zt⟩
 have hrn6:=Int.emod_nonneg X2KX (b:=n) (by omega)
 have hrl6:=Int.emod_lt_of_pos X2KX (show 0 < n by omega)
 refine Js.skip<|zS<|Qm rfl<|Qm rfl<|Qq (p_rem rfl rfl (by omega) (Int.tmod_eq_emod_of_nonneg (by omega)))<|Qa rfl<|JL.nil ?_
 refine zrb [0] hb (Up.refl _ _) ?_
 exact⟨(X2KX % n),(X2AT),(X2SD),rfl,rfl,zt,zt,zt,zt⟩
theorem zq1(c1c:Nat)(s_at s_seed:Int){As_0:Option Addr}{cs_0:Nat}(n:Int){bs:Nat}{w:World}(hb:Bw w [boxO bs [.slice As_0 c1c cs_0,.int .i64 s_at,.int .u64 s_seed] 141])(hps_0:(Ty.bytes 5 c1c).ok (offW w (([boxO bs [.slice As_0 c1c cs_0,.int .i64 s_at,.int .u64 s_seed] 141]:List Own).flatMap (·.fp))) (.slice As_0 c1c cs_0))(r0:0<=s_at:=by exact om_)(r1:s_at<=999999998:=by exact om_)(r2:c1c<=1048576:=by exact om_)(r3:n<=1000000:=by exact om_):RetB Tryz.prog 58 [.pointer (some ⟨bs,0,none⟩),.int .i64 n] w [boxO bs [.slice As_0 c1c cs_0,.int .i64 s_at,.int .u64 s_seed] 141] (λv bs'=>∃ (BX:Bool) (AT SD:Int),v=.bool BX/\bs'=[boxO bs [.slice As_0 c1c cs_0,.int .i64 AT,.int .u64 SD] 141]/\(s_at<=AT)/\(AT<=s_at + 2)):=by
 refine enterB hb @Tryz.func58 @Tryz.ntmps58 rfl rfl ?_
 refine zent ?_
 refine Js.trashE ?_
 refine zn ?_
 refine zS<|Qa rfl<|zN<|Qm rfl<|Qm rfl<|zBB 1 sp_ rfl (λw hb _ hw=>zq0 c1c s_at s_seed n hb (ok_ hw)) ?_
 rintro _ _ G1 ⟨X1KX,X1AT,X1SD,rfl,rfl,hX1_0,hX1_1,hX1_2,hX1_3⟩
 refine znl ?_
 refine Qe rfl rfl<|Qa rfl<|JL.nil ?_
 refine zrb [0] hb (Up.refl _ _) ?_
 exact⟨(decide (X1KX=0)),(X1AT),(X1SD),rfl,rfl,zt,zt⟩
theorem zq41(c1c:Nat)(s_at s_seed:Int){As_0:Option Addr}{cs_0:Nat}(list:List Int){v_list:Value}{bs:Nat}{w:World}(hb:Bw w [boxO bs [.slice As_0 c1c cs_0,.int .i64 s_at,.int .u64 s_seed] 141])(hps_0:(Ty.bytes 5 c1c).ok (offW w (([boxO bs [.slice As_0 c1c cs_0,.int .i64 s_at,.int .u64 s_seed] 141]:List Own).flatMap (·.fp))) (.slice As_0 c1c cs_0))(h_list:(Ty.ints 2 list).ok (offW w (([boxO bs [.slice As_0 c1c cs_0,.int .i64 s_at,.int .u64 s_seed] 141]:List Own).flatMap (·.fp))) v_list)(r0:0<=s_at:=by exact om_)(r1:s_at<=999999998:=by exact om_)(r2:c1c<=1048576:=by exact om_)(r3:1<=list.length:=by exact om_)(r4:list.length<=1000:=by exact om_):RetB Tryz.prog 106 [.pointer (some ⟨bs,0,none⟩),v_list] w [boxO bs [.slice As_0 c1c cs_0,.int .i64 s_at,.int .u64 s_seed] 141] (λv bs'=>∃ (KX AT SD:Int),v=.int .i64 KX/\bs'=[boxO bs [.slice As_0 c1c cs_0,.int .i64 AT,.int .u64 SD] 141]/\(KX∈list)/\(s_at<=AT)/\(AT<=s_at + 2)):=by
 revert v_list;apply opn
 intro A1 c1 h1 bl1 bh1
 have h_list:=h1
 refine enterB hb @Tryz.func106 @Tryz.ntmps106 rfl rfl ?_
 refine zent ?_
 refine Js.trashE ?_
 refine zn ?_
 refine zS<|Qa rfl<|zN<|Qm rfl<|Qm rfl<|Qm rfl<|Qz rfl<|zBB 1 sp_ rfl (λw hb _ hw=>zq0 c1c s_at s_seed (list.length:Int) hb (ok_ hw)) ?_
 rintro _ _ G2 ⟨X2KX,X2AT,X2SD,rfl,rfl,hX2_0,hX2_1,hX2_2,hX2_3⟩
 refine znl ?_
 obtain⟨b3,o3,he3,hc3⟩:=a0l h1 (i:=X2KX.toNat) (by omega)
 refine Qq (a0a el_26 rfl rfl (by omega) (by omega) he3)<|QC hc3 rfl<|Qa rfl<|JL.nil ?_
 refine zrb [0] hb (Up.refl _ _) ?_
 refine⟨(M.nth list X2KX.toNat),(X2AT),(X2SD),rfl, ?_,by first|trivial|omega|exact M.a2w (by omega),by first|trivial|omega|exact M.a2w (by omega),by first|trivial|omega|exact M.a2w (by omega)⟩
 · rfl
theorem zq19(c1c:Nat)(s_at s_seed:Int){As_0:Option Addr}{cs_0:Nat}(list:List (List UInt8)){v_list:Value}{bs:Nat}{w:World}(hb:Bw w [boxO bs [.slice As_0 c1c cs_0,.int .i64 s_at,.int .u64 s_seed] 141])(hps_0:(Ty.bytes 5 c1c).ok (offW w (([boxO bs [.slice As_0 c1c cs_0,.int .i64 s_at,.int .u64 s_seed] 141]:List Own).flatMap (·.fp))) (.slice As_0 c1c cs_0))(h_list:(Ty.strs 9 list).ok (offW w (([boxO bs [.slice As_0 c1c cs_0,.int .i64 s_at,.int .u64 s_seed] 141]:List Own).flatMap (·.fp))) v_list)(r0:0<=s_at:=by exact om_)(r1:s_at<=999999998:=by exact om_)(r2:c1c<=1048576:=by exact om_)(r3:1<=list.length:=by exact om_)(r4:list.length<=1000:=by exact om_):RetB Tryz.prog 111 [.pointer (some ⟨bs,0,none⟩),v_list] w [boxO bs [.slice As_0 c1c cs_0,.int .i64 s_at,.int .u64 s_seed] 141] (λv bs'=>∃ (TX:List UInt8) (AT SD:Int),v=.string (sB TX)/\bs'=[boxO bs [.slice As_0 c1c cs_0,.int .i64 AT,.int .u64 SD] 141]/\(TX∈list)/\(s_at<=AT)/\(AT<=s_at + 2)):=by
 revert v_list;apply opn
 intro A1 c1 h1 bl1 bh1
 have h_list:=h1
 refine enterB hb @Tryz.func111 @Tryz.ntmps111 rfl rfl ?_
 refine zent ?_
 refine Js.trashE ?_
 refine zn ?_
 refine zS<|Qa rfl<|zN<|Qm rfl<|Qm rfl<|Qm rfl<|Qz rfl<|zBB 1 sp_ rfl (λw hb _ hw=>zq0 c1c s_at s_seed (list.length:Int) hb (ok_ hw)) ?_
 rintro _ _ G2 ⟨X2KX,X2AT,X2SD,rfl,rfl,hX2_0,hX2_1,hX2_2,hX2_3⟩
 refine znl ?_
 obtain⟨y3,hy3⟩:∃ x,list[X2KX.toNat]?=some x:=⟨_,List.getElem?_eq_getElem (by omega)⟩
 obtain⟨b3,o3,he3,hc3⟩:=a0o h1 hy3
 refine Qq (a0a el_31 rfl rfl (by omega) (by omega) he3)<|QC hc3 rfl<|Qa rfl<|JL.nil ?_
 refine zrb [0] hb (Up.refl _ _) ?_
 refine⟨(y3),(X2AT),(X2SD),rfl, ?_,by first|trivial|omega|exact List.mem_of_getElem? (by assumption),by first|trivial|omega|exact List.mem_of_getElem? (by assumption),by first|trivial|omega|exact List.mem_of_getElem? (by assumption)⟩
 · rfl
theorem zq18  {w:World}  : Ret Tryz.prog 166 [] w (Ty.strs 9 M.stdNames):=by
 refine enter @Tryz.func166 @Tryz.ntmps166 rfl rfl ?_
 refine zent ?_
 refine zS<|Qa rfl<|zN<|zbs λb1=>?_
 refine Qa rfl<|JL.nil ?_
 exact zro (Up.refl _ _) (g:=by exact(a7z po_ (by rfl) (by rfl)))
theorem zq80(name:List UInt8){w:World}(r0:name∈M.stdNames:=by exact om_):Ret Tryz.prog 165 [.string (sB name)] w (Ty.tup [Ty.ex (fun (RX:M.Rul)=>(2<=RX.pits/\RX.pits<=8)) (λRX=>Ty.agg (cRules RX)),Ty.ex (fun (CX:Int)=>True) (λCX=>Ty.int CX)]):=by
 refine enter @Tryz.func165 @Tryz.ntmps165 rfl rfl ?_
 refine zent ?_
 refine zS<|za zeh λb1=>Qa rfl<|zJ<|zS<|Qm rfl<|JL.nil<|Js.block<|zS<|Qq (a0w und_9 rfl rfl)<|Qa rfl<|JL.nil ?_
 refine zi (λh2 h2'=>?_) λh2 h2'=>?_
 ·refine zS<|Qb ?_
  refine zw 0 rfl rfl rfl ?_
  refine Qa rfl<|JL.nil ?_
  exact zro (Up.refl _ _) (g:=by exact(a2o (gvc (gv_ex (M.Rul.mk 6 4 true false false false true 2 0) (by first|trivial|omega|decide|(dsimp only;omega)|(exfalso;simp only[M.stdNames,List.mem_cons,List.not_mem_nil,or_false] at r0;rcases r0 with rfl|rfl|rfl|rfl <;> simp_all)) gv_) (gvc (gv_ex 0 (by first|trivial|omega|decide|(dsimp only;omega)|(exfalso;simp only[M.stdNames,List.mem_cons,List.not_mem_nil,or_false] at r0;rcases r0 with rfl|rfl|rfl|rfl <;> simp_all)) gv_) gvn))))
 refine zS<|Qq (a0w und_9 rfl rfl)<|Qa rfl<|JL.nil ?_
 refine zi (λh3 h3'=>?_) λh3 h3'=>?_
 ·refine zS<|Qb ?_
  refine zw 0 rfl rfl rfl ?_
  refine Qa rfl<|JL.nil ?_
  exact zro (Up.refl _ _) (g:=by exact(a2o (gvc (gv_ex (M.Rul.mk 3 2 false false false true false 1 0) (by first|trivial|omega|decide|(dsimp only;omega)|(exfalso;simp only[M.stdNames,List.mem_cons,List.not_mem_nil,or_false] at r0;rcases r0 with rfl|rfl|rfl|rfl <;> simp_all)) gv_) (gvc (gv_ex 0 (by first|trivial|omega|decide|(dsimp only;omega)|(exfalso;simp only[M.stdNames,List.mem_cons,List.not_mem_nil,or_false] at r0;rcases r0 with rfl|rfl|rfl|rfl <;> simp_all)) gv_) gvn))))
 refine zS<|Qq (a0w und_9 rfl rfl)<|Qa rfl<|JL.nil ?_
 refine zi (λh4 h4'=>?_) λh4 h4'=>?_
 ·refine zS<|Qb ?_
  refine zw 0 rfl rfl rfl ?_
  refine Qa rfl<|JL.nil ?_
  exact zro (Up.refl _ _) (g:=by exact(a2o (gvc (gv_ex (M.Rul.mk 6 4 false true false true false 1 2) (by first|trivial|omega|decide|(dsimp only;omega)|(exfalso;simp only[M.stdNames,List.mem_cons,List.not_mem_nil,or_false] at r0;rcases r0 with rfl|rfl|rfl|rfl <;> simp_all)) gv_) (gvc (gv_ex 0 (by first|trivial|omega|decide|(dsimp only;omega)|(exfalso;simp only[M.stdNames,List.mem_cons,List.not_mem_nil,or_false] at r0;rcases r0 with rfl|rfl|rfl|rfl <;> simp_all)) gv_) gvn))))
 refine zS<|Qq (a0w und_9 rfl rfl)<|Qa rfl<|JL.nil ?_
 refine zi (λh5 h5'=>?_) λh5 h5'=>?_
 ·refine zS<|Qb ?_
  refine zw 0 rfl rfl rfl ?_
  refine Qa rfl<|JL.nil ?_
  exact zro (Up.refl _ _) (g:=by exact(a2o (gvc (gv_ex (M.Rul.mk 4 2 false false true false false 2 0) (by first|trivial|omega|decide|(dsimp only;omega)|(exfalso;simp only[M.stdNames,List.mem_cons,List.not_mem_nil,or_false] at r0;rcases r0 with rfl|rfl|rfl|rfl <;> simp_all)) gv_) (gvc (gv_ex 0 (by first|trivial|omega|decide|(dsimp only;omega)|(exfalso;simp only[M.stdNames,List.mem_cons,List.not_mem_nil,or_false] at r0;rcases r0 with rfl|rfl|rfl|rfl <;> simp_all)) gv_) gvn))))
 refine Js.skip<|Js.blockEnd<|zS<|Qb ?_
 refine zw 0 rfl rfl rfl ?_
 refine Qa rfl<|JL.nil ?_
 exact zro (Up.refl _ _) (g:=by exact(a2o (gvc (gv_ex (M.Rul.mk 0 0 false false false false false 0 0) (by first|trivial|omega|decide|(dsimp only;omega)|(exfalso;simp only[M.stdNames,List.mem_cons,List.not_mem_nil,or_false] at r0;rcases r0 with rfl|rfl|rfl|rfl <;> simp_all)) gv_) (gvc (gv_ex 3 (by first|trivial|omega|decide|(dsimp only;omega)|(exfalso;simp only[M.stdNames,List.mem_cons,List.not_mem_nil,or_false] at r0;rcases r0 with rfl|rfl|rfl|rfl <;> simp_all)) gv_) gvn))))
theorem zq140(c1c:Nat)(s_at s_seed:Int){As_0:Option Addr}{cs_0 bs:Nat}{w:World}(hb:Bw w [boxO bs [.slice As_0 c1c cs_0,.int .i64 s_at,.int .u64 s_seed] 141])(hps_0:(Ty.bytes 5 c1c).ok (offW w (([boxO bs [.slice As_0 c1c cs_0,.int .i64 s_at,.int .u64 s_seed] 141]:List Own).flatMap (·.fp))) (.slice As_0 c1c cs_0))(r0:0<=s_at:=by exact om_)(r1:s_at<=999999960:=by exact om_)(r2:c1c<=1048576:=by exact om_):RetB Tryz.prog 164 [.pointer (some ⟨bs,0,none⟩)] w [boxO bs [.slice As_0 c1c cs_0,.int .i64 s_at,.int .u64 s_seed] 141] (λv bs'=>∃ (RX:M.Rul) (AT SD:Int),v=.agg #[.int .i64 RX.pits,.int .i64 RX.seeds,.bool RX.stores,.bool RX.skip,.bool RX.relay,.bool RX.feed,.bool RX.again,.int .i64 RX.capture,.int .i64 RX.slam]/\bs'=[boxO bs [.slice As_0 c1c cs_0,.int .i64 AT,.int .u64 SD] 141]/\(2<=RX.pits/\RX.pits<=8)/\(s_at<=AT)/\(AT<=s_at + 40)):=by
 refine enterB hb @Tryz.func164 @Tryz.ntmps164 rfl rfl ?_
 refine zent ?_
 refine Js.trashE ?_
 refine zn ?_
 refine zS<|za zeh λb1=>zJ<|zS<|Qm rfl ?_
 refine zhl [1] ?_
 refine zBB 1 sp_ rfl (λw hb _ hw=>zq1 c1c s_at s_seed 3 hb (ok_ hw)) ?_
 rintro _ _ G2 ⟨X2BX,X2AT,X2SD,rfl,rfl,hX2_0,hX2_1⟩
 refine znl ?_
 refine JL.nil ?_
 refine zf [0,1] λGG3=>?_
 refine zn ?_
 refine zi (λh4 h4'=>?_) λh4 h4'=>?_
 ·refine zS<|Qm rfl<|zp rfl (λw hw=>zq18) ?_
  intro u5 x5 A6 c6 h6 bl6 bh6
  refine zBB 1 sp_ rfl (λw hb _ hw=>zq19 c1c X2AT X2SD M.stdNames hb (ok_ hw) (ok_ hw) (r3:=(by decide)) (r4:=(by decide))) ?_
  rintro _ _ G7 ⟨X7TX,X7AT,X7SD,rfl,rfl,hX7_0,hX7_1,hX7_2⟩
  refine znl ?_
  refine zp rfl (λw hw=>zq80 X7TX (r0:=(by assumption))) ?_
  intro u8 x8 X9 hX9 X10 hX10
  refine Qm rfl<|Qx rfl rfl<|Qx rfl rfl<|za zeh λb11=>zw 0 rfl rfl rfl ?_
  refine Qa rfl<|JL.nil ?_
  refine zf [0,0,1] λGG12=>?_
  refine zn ?_
  refine zS<|Q9 0 rfl rfl ?_
  refine zw 2 rfl rfl rfl ?_
  refine JL.nil ?_
  refine zf [1,1] λGG13=>?_
  refine zn ?_
  refine zrb [0] hb (x5.trans x8) ?_
  refine⟨(X9),(X7AT),(X7SD),rfl, ?_,by first|trivial|omega|decide|(dsimp only;omega),by first|trivial|omega|decide|(dsimp only;omega),by first|trivial|omega|decide|(dsimp only;omega)⟩
  · rfl
 refine Js.skip<|zS<|Qm rfl<|zBB 1 sp_ rfl (λw hb _ hw=>zq0 c1c X2AT X2SD 4 hb (ok_ hw)) ?_
 rintro _ _ G14 ⟨X14KX,X14AT,X14SD,rfl,rfl,hX14_0,hX14_1,hX14_2,hX14_3⟩
 refine znl ?_
 refine Qp rfl rfl<|Qm rfl<|zBB 1 sp_ rfl (λw hb _ hw=>zq0 c1c X14AT X14SD 4 hb (ok_ hw)) ?_
 rintro _ _ G15 ⟨X15KX,X15AT,X15SD,rfl,rfl,hX15_0,hX15_1,hX15_2,hX15_3⟩
 refine znl ?_
 refine Qp rfl rfl<|Qb ?_
 refine za zeh λb16=>zw 0 rfl rfl rfl ?_
 refine JL.nil ?_
 refine zf [0,0,2] λGG17=>?_
 refine zn ?_
 refine zS<|Qm rfl ?_
 refine zhl [1] ?_
 refine zBB 1 sp_ rfl (λw hb _ hw=>zq1 c1c X15AT X15SD 2 hb (ok_ hw)) ?_
 rintro _ _ G18 ⟨X18BX,X18AT,X18SD,rfl,rfl,hX18_0,hX18_1⟩
 refine znl ?_
 refine Qf fh rfl<|zw 2 rfl rfl rfl ?_
 refine JL.nil ?_
 refine zf [0,1,1] λGG19=>?_
 refine zn ?_
 refine zS<|Qm rfl<|zBB 1 sp_ rfl (λw hb _ hw=>zq1 c1c X18AT X18SD 2 hb (ok_ hw)) ?_
 rintro _ _ G20 ⟨X20BX,X20AT,X20SD,rfl,rfl,hX20_0,hX20_1⟩
 refine znl ?_
 refine Qf fh rfl<|zw 2 rfl rfl rfl ?_
 refine JL.nil ?_
 refine zf [0,1,1] λGG21=>?_
 refine zn ?_
 refine zS<|Qm rfl<|zBB 1 sp_ rfl (λw hb _ hw=>zq1 c1c X20AT X20SD 4 hb (ok_ hw)) ?_
 rintro _ _ G22 ⟨X22BX,X22AT,X22SD,rfl,rfl,hX22_0,hX22_1⟩
 refine znl ?_
 refine Qf fh rfl<|zw 2 rfl rfl rfl ?_
 refine JL.nil ?_
 refine zf [0,1,1] λGG23=>?_
 refine zn ?_
 refine zS<|Qm rfl<|zBB 1 sp_ rfl (λw hb _ hw=>zq1 c1c X22AT X22SD 2 hb (ok_ hw)) ?_
 rintro _ _ G24 ⟨X24BX,X24AT,X24SD,rfl,rfl,hX24_0,hX24_1⟩
 refine znl ?_
 refine Qf fh rfl<|zw 2 rfl rfl rfl ?_
 refine JL.nil ?_
 refine zf [0,1,1] λGG25=>?_
 refine zn ?_
 refine Js.seq ?_
 rcases Bool.eq_false_or_eq_true (X18BX) with h26|h26
 ·refine Js.region<|Qf fh rfl<|Q0 1 rfl rfl rfl<|Qm rfl<|zT (Gd.t1 rfl rfl rfl) (show X18BX=true by first|exact h26|(rw[h26];rfl)|simp[h26])<|Qm rfl<|zT (Gd.t1 rfl rfl rfl) (show X18BX=true by first|exact h26|(rw[h26];rfl)|simp[h26])<|zBB 1 sp_ rfl (λw hb _ hw=>zq1 c1c X24AT X24SD 2 hb (ok_ hw)) ?_
  rintro _ _ G27 ⟨X27BX,X27AT,X27SD,rfl,rfl,hX27_0,hX27_1⟩
  refine znl ?_
  refine Qq (a3k rfl rfl rfl)<|Qf fh rfl<|zw 2 rfl rfl rfl ?_
  refine JL.nil ?_
  refine zf [0,1,1] λGG28=>?_
  refine zn ?_
  refine zS<|Qm rfl<|zBB 1 sp_ rfl (λw hb _ hw=>zq0 c1c X27AT X27SD 4 hb (ok_ hw)) ?_
  rintro _ _ G29 ⟨X29KX,X29AT,X29SD,rfl,rfl,hX29_0,hX29_1,hX29_2,hX29_3⟩
  refine znl ?_
  refine Qf fh rfl<|zw 2 rfl rfl rfl ?_
  refine JL.nil ?_
  refine zf [0,1,1] λGG30=>?_
  refine zn ?_
  refine zS<|Qm rfl<|zBB 1 sp_ rfl (λw hb _ hw=>zq0 c1c X29AT X29SD 3 hb (ok_ hw)) ?_
  rintro _ _ G31 ⟨X31KX,X31AT,X31SD,rfl,rfl,hX31_0,hX31_1,hX31_2,hX31_3⟩
  refine znl ?_
  refine Qf fh rfl<|zw 2 rfl rfl rfl ?_
  refine JL.nil ?_
  refine zf [0,1,1] λGG32=>?_
  refine zn ?_
  refine zS<|Q9 1 rfl rfl ?_
  refine zw 2 rfl rfl rfl ?_
  refine JL.nil ?_
  refine zf [0,1] λGG33=>?_
  refine zn ?_
  refine zrb [0] hb (Up.refl _ _) ?_
  refine⟨((M.Rul.mk (2 + X14KX) (1 + X15KX) X18BX X20BX X22BX X24BX (X18BX && X27BX) X29KX X31KX)),(X31AT),(X31SD),rfl, ?_,by first|trivial|omega|decide|(dsimp only;omega),by first|trivial|omega|decide|(dsimp only;omega),by first|trivial|omega|decide|(dsimp only;omega)⟩
  · rfl
 refine Js.region<|Qf fh rfl<|Q0 1 rfl rfl rfl<|Qm rfl ?_
 refine JL.g (v:=undef) (Gd.t1 rfl rfl rfl) (λhc=>absurd hc (by first|(rw[h26];simp;done)|simp[h26])) ?_
 refine JL.g (v:=.bool false) (Gd.t1 rfl rfl rfl) (λhc=>absurd hc (by first|(rw[h26];simp;done)|simp[h26])) ?_
 refine Qq (a0d rfl rfl rfl)<|Qf fh rfl<|zw 1 rfl rfl rfl ?_
 refine zN<|Qm rfl<|zBB 1 sp_ rfl (λw hb _ hw=>zq0 c1c X24AT X24SD 4 hb (ok_ hw)) ?_
 rintro _ _ G34 ⟨X34KX,X34AT,X34SD,rfl,rfl,hX34_0,hX34_1,hX34_2,hX34_3⟩
 refine znl ?_
 refine Qf fh rfl<|zw 2 rfl rfl rfl ?_
 refine JL.nil ?_
 refine zf [0,1,1] λGG35=>?_
 refine zn ?_
 refine zS<|Qm rfl<|zBB 1 sp_ rfl (λw hb _ hw=>zq0 c1c X34AT X34SD 3 hb (ok_ hw)) ?_
 rintro _ _ G36 ⟨X36KX,X36AT,X36SD,rfl,rfl,hX36_0,hX36_1,hX36_2,hX36_3⟩
 refine znl ?_
 refine Qf fh rfl<|zw 2 rfl rfl rfl ?_
 refine JL.nil ?_
 refine zf [0,1,1] λGG37=>?_
 refine zn ?_
 refine zS<|Q9 1 rfl rfl ?_
 refine zw 2 rfl rfl rfl ?_
 refine JL.nil ?_
 refine zf [0,1] λGG38=>?_
 refine zn ?_
 refine zrb [0] hb (Up.refl _ _) ?_
 refine⟨((M.Rul.mk (2 + X14KX) (1 + X15KX) X18BX X20BX X22BX X24BX (X18BX && false) X34KX X36KX)),(X36AT),(X36SD),rfl, ?_,by first|trivial|omega|decide|(dsimp only;omega),by first|trivial|omega|decide|(dsimp only;omega),by first|trivial|omega|decide|(dsimp only;omega)⟩
 · rfl
theorem zq20(r:M.Rul){v_r:Value}{w:World}(h_r:(Ty.ref (cRules r)).ok w v_r)(r0:0<=r.pits:=by exact om_)(r1:r.pits<=8:=by exact om_):Ret Tryz.prog 138 [v_r] w (Ty.agg (cPosition (M.startP r))):=by
 revert v_r;apply opn
 intro b1 o1 hr1
 refine enter @Tryz.func138 @Tryz.ntmps138 rfl rfl ?_
 refine zent ?_
 refine zS<|za zeh λb2=>zN<|zbs λb3=>?_
 refine Qb ?_
 refine za zeh λb5=>zw 0 rfl rfl rfl ?_
 refine zJ<|zS<|Qa rfl<|JL.nil<|Js.block ?_
 refine Js.conv (λw hw=>St.nilRow 2 hw) ?_
 refine zl [0,2,3] (λF U l os u m=>∃ (k:Nat) (xs:List Int) (A6_3_0:Option Addr) (c6_3_0:Nat) (g6_3_0:List Nat),l=F [(4,.int .i64 (k:Int))]/\os=U [some (rowO 2 1 (.slice A6_3_0 xs.length c6_3_0) xs.length (ints_ xs) g6_3_0),some (boxO b5 [.slice A6_3_0 xs.length c6_3_0,.slice (some ⟨b3,0,none⟩) 2 2,.int .i64 0] 28)]/\(xs=List.replicate k r.seeds)/\((k:Int)<=2 * r.pits)/\(xs.length=k)/\(xs.length<=c6_3_0)/\(c6_3_0<=9223372036854775807)/\m=(2 * r.pits - k).toNat) ⟨0,[],_,_,_,rfl,rfl,by rfl,zt,by rfl,zu,zu,rfl⟩ ?_
 rintro _ _ u6 _ ⟨k,xs,A6_3_0,c6_3_0,g6_3_0,rfl,rfl,hX,hk,hl,f6_3,f6_4,rfl⟩ x6
 refine zn ?_
 refine Js.seq<|zS<|Qm rfl<|Qm rfl<|Qc rfl<|Qf fh rfl<|QC ((hr1.vis x6.vis) 0 _ rfl) rfl<|Qu rfl rfl<|Ql rfl rfl<|JL.nil ?_
 refine zi (λh7 h7'=>?_) λh7 h7'=>?_
 ·refine Js.skip<|Js.seq<|Js.block ?_
  refine zdr [7,9] ?_
  refine jF 0 a1a rfl rfl ?_
  refine jB 1 1 ty_26 rfl rfl rfl rfl ?_
  refine jM 2 rfl rfl ?_
  refine jN 3 rfl rfl ?_
  refine jF 4 a5p rfl rfl ?_
  refine jW 5 ty_2 rfl rfl (λhv=>(hr1.vis (x6.vis.trans hv)) 1 _ rfl) ?_
  refine y1 6 ?_
  refine ybs rfl λb8=>?_
  refine y1 7 ?_
  refine JHo.e rfl (a0g (i:=1) (n':=(xs++[r.seeds]).length) (vs':=ints_ (xs++[r.seeds])) el_26 rfl rfl rfl rfl (a0k (i:=0) a1h rfl rfl) (by omega) (by omega) ln2_ (by simp[ints_])) (.inr rfl) ?_
  rintro v10 _ _ ⟨⟨g11,rfl⟩,rfl⟩ _
  refine JH.fact (row_form' (i:=1) rfl) (λhf12=>?_)
  obtain⟨A12,c12,rfl,bl12,bh12⟩:=hf12
  refine znh ?_
  refine jF 8 a1a rfl rfl ?_
  refine y1 9 ?_
  refine yst rfl rfl rfl ?_
  refine yd ?_
  refine Js.blockEnd<|Js.region<|Qm rfl<|Qp rfl rfl<|Qa rfl<|JL.nil ?_
  refine zd [1,1,1,1] rfl λu13 x13=>?_
  exact zag ⟨k + 1,xs++[r.seeds],_,_,_,rfl,rfl,by rw[hX];exact List.replicate_succ'.symm,zt,by simp[hl],zu,zu,rfl⟩ (x6.trans x13)
 have hE:xs=List.replicate (2 * r.pits).toNat r.seeds:=by rw[hX];congr 1;have:=h7';omega
 refine zx ?_
 have hq0:xs=(M.startP r).pits:=by first|rfl|exact hE
 have hq1:[0,0]=(M.startP r).stores:=by first|rfl|exact hE
 have hq2:0=(M.startP r).player:=by first|rfl|exact hE
 refine zS<|Q9 1 rfl rfl ?_
 refine zw 3 rfl rfl rfl ?_
 refine JL.nil ?_
 exact zro x6
theorem zq141(c1c:Nat)(s_at s_seed:Int){As_0:Option Addr}{cs_0:Nat}(r:M.Rul){v_r:Value}{bs:Nat}{w:World}(hb:Bw w [boxO bs [.slice As_0 c1c cs_0,.int .i64 s_at,.int .u64 s_seed] 141])(hps_0:(Ty.bytes 5 c1c).ok (offW w (([boxO bs [.slice As_0 c1c cs_0,.int .i64 s_at,.int .u64 s_seed] 141]:List Own).flatMap (·.fp))) (.slice As_0 c1c cs_0))(h_r:(Ty.ref (cRules r)).ok (offW w (([boxO bs [.slice As_0 c1c cs_0,.int .i64 s_at,.int .u64 s_seed] 141]:List Own).flatMap (·.fp))) v_r)(r0:0<=s_at:=by exact om_)(r1:s_at<=999999800:=by exact om_)(r2:c1c<=1048576:=by exact om_)(r3:0<=r.pits:=by exact om_)(r4:r.pits<=8:=by exact om_):RetB Tryz.prog 137 [.pointer (some ⟨bs,0,none⟩),v_r] w [boxO bs [.slice As_0 c1c cs_0,.int .i64 s_at,.int .u64 s_seed] 141] (λv bs'=>∃ (PX:M.Pos) (AT SD:Int) (Axr_0:Option Addr) (cxr_0:Nat) (gxr_0:List Nat) (Axr_1:Option Addr) (cxr_1:Nat) (gxr_1:List Nat),v=.agg #[.slice Axr_0 PX.pits.length cxr_0,.slice Axr_1 PX.stores.length cxr_1,.int .i64 PX.player]/\bs'=[boxO bs [.slice As_0 c1c cs_0,.int .i64 AT,.int .u64 SD] 141,rowO 2 1 (.slice Axr_0 PX.pits.length cxr_0) PX.pits.length (ints_ PX.pits) gxr_0,rowO 2 1 (.slice Axr_1 PX.stores.length cxr_1) PX.stores.length (ints_ PX.stores) gxr_1]/\PX.pits.length<=cxr_0/\cxr_0<=9223372036854775807/\PX.stores.length<=cxr_1/\cxr_1<=9223372036854775807/\(PX.pits.length=(2 * r.pits).toNat/\PX.stores.length=2)/\(s_at<=AT)/\(AT<=s_at + 200)):=by
 have hl0:(M.startP r).pits.length=(2 * r.pits).toNat:=by simp[M.startP]
 have hl1:(M.startP r).stores.length=2:=rfl
 revert v_r;apply opn
 intro b1 o1 hr1
 refine enterB hb @Tryz.func137 @Tryz.ntmps137 rfl rfl ?_
 refine zent ?_
 refine Js.trashE ?_
 refine zn ?_
 refine zS<|za zeh λb2=>zN<|Qm rfl<|zc rfl (λw hw=>zq20 r (ok_ hw)) ?_
 intro A4 c4 bl4 bh4 A5 c5 bl5 bh5
 refine za zeh λb6=>zw 0 rfl rfl rfl ?_
 refine zN<|Qm rfl ?_
 refine zhl [4] ?_
 refine zBB 1 sp_ rfl (λw hb _ hw=>zq1 c1c s_at s_seed 2 hb (ok_ hw)) ?_
 rintro _ _ G7 ⟨X7BX,X7AT,X7SD,rfl,rfl,hX7_0,hX7_1⟩
 refine znl ?_
 refine Qa rfl<|JL.nil ?_
 refine zf [0,1,1,1,1] λGG8=>?_
 refine zn ?_
 refine Js.seq<|zS<|Qa rfl<|JL.nil<|Js.block ?_
 refine zl [0,1,4,5,6] (λF U l os u m=>∃ (k:Nat) (at1 sd1:Int) (xs:List Int) (G9_5:List Nat),l=F [(7,.int .i64 (k:Int))]/\os=U [some (boxO bs [.slice As_0 c1c cs_0,.int .i64 at1,.int .u64 sd1] 141),nO,nO,some (rowO 2 1 (.slice A4 (((M.startP r).pits).length) c4) (((M.startP r).pits).length) (ints_ xs) []),nO,some (anyO G9_5)]/\(xs.length=(M.startP r).pits.length)/\(k<=xs.length)/\(s_at<=at1)/\(at1<=s_at + 4 + 4 * k)/\m=xs.length - k) ⟨0,X7AT,X7SD,(M.startP r).pits,_,rfl,rfl,by rfl,zt,zt,zt,rfl⟩ ?_
 rintro _ _ u9 _ ⟨k,at1,sd1,xs,G9_5,rfl,rfl,hX,hk,ha0,ha1,rfl⟩ x9
 refine zn ?_
 refine Js.seq<|zS<|Qm rfl<|Qf fh rfl<|Q0 1 rfl rfl rfl<|Qz rfl<|Ql rfl rfl<|JL.nil ?_
 refine zi (λh10 h10'=>?_) λh10 h10'=>?_
 ·refine Js.skip<|Js.seq<|Js.block<|Js.seq ?_
  refine Js.fact (a0s (i:=3) rfl (by omega)) (λhf11=>?_)
  obtain⟨b11,rfl⟩:=hf11
  refine zk [0,1,4,5,6,7] (λF U l os u=>∃ (G12:List Nat) (X12AT X12SD X12KX:Int),l=F []/\os=[anyO G12]++U [some (boxO bs [.slice As_0 c1c cs_0,.int .i64 X12AT,.int .u64 X12SD] 141),nO,nO,some (rowO 2 1 (.slice (some ⟨b11,0,none⟩) (((M.startP r).pits).length) c4) (((M.startP r).pits).length) (ints_ (xs.set k X12KX)) [])]/\(at1<=X12AT)/\(X12AT<=at1 + 2)/\(0<=X12KX)/\(X12KX=0\/X12KX < 6)) ?_ ?_
  ·refine zdr [4,6] ?_
   refine jF 0 a1a rfl rfl ?_
   refine jM 2 rfl rfl ?_
   refine jM 3 rfl rfl ?_
   refine y2 1 4 ?_ ?_
   ·refine JHo.q rfl (a0c ty_26.h rfl (Mem.box (i:=1) rfl rfl)) ?_
    refine y1 4 ?_
    refine yBB 1 sp_ rfl rfl (λw hb _ hw=>zq0 c1c at1 sd1 6 hb (ok_ hw)) ?_
    rintro _ _ G17 ⟨X17KX,X17AT,X17SD,rfl,rfl,hX17_0,hX17_1,hX17_2,hX17_3⟩
    refine znh ?_
    refine jI 5 el_26 rfl rfl rfl rfl ?_
    refine y1 6 ?_
    refine JHo.s rfl (a0i (i:=4) (xs':=ints_ (xs.set k X17KX)) ty_2.h rfl rfl rfl rfl rfl rfl (a0q (i:=k) (by omega)) (a0m (i:=k) (by omega))) (.inr rfl) ?_
    rintro _ _ _ ⟨rfl,rfl⟩ _
    refine znh ?_
    refine yd ?_
    refine zh [1,0,0,0,0,0,0] ?_
    exact zm ⟨_,_,_,_,rfl,rfl,zt,zt,zt,zt⟩ (Up.refl _ _) ⟨rfl,rfl,rfl,rfl,rfl,rfl,trivial⟩
   refine yBB 1 sp_ rfl rfl (λw hb _ hw=>zq0 c1c at1 sd1 6 hb (ok_ hw)) ?_
   rintro _ _ G19 ⟨X19KX,X19AT,X19SD,rfl,rfl,hX19_0,hX19_1,hX19_2,hX19_3⟩
   refine znh ?_
   refine y1 1 ?_
   refine JHo.q rfl (a0c ty_26.h rfl (Mem.box (i:=2) rfl rfl)) ?_
   refine jI 5 el_26 rfl rfl rfl rfl ?_
   refine y1 6 ?_
   refine JHo.s rfl (a0i (i:=4) (xs':=ints_ (xs.set k X19KX)) ty_2.h rfl rfl rfl rfl rfl rfl (a0q (i:=k) (by omega)) (a0m (i:=k) (by omega))) (.inr rfl) ?_
   rintro _ _ _ ⟨rfl,rfl⟩ _
   refine znh ?_
   refine yd ?_
   refine zh [1,0,0,0,0,0,0] ?_
   exact zm ⟨_,_,_,_,rfl,rfl,zt,zt,zt,zt⟩ (Up.refl _ _) ⟨rfl,rfl,rfl,rfl,rfl,rfl,trivial⟩
  rintro _ _ u16 ⟨G12,X12AT,X12SD,X12KX,rfl,rfl,f16_0,f16_1,f16_2,f16_3⟩ x16
  refine zn ?_
  refine zf [1,1,1,1,1] λGG21=>?_
  refine zn ?_
  refine Js.seq ?_
  rcases Bool.eq_false_or_eq_true (X7BX) with h22|h22
  ·refine Js.region<|Qm rfl<|Qm rfl<|zT (Gd.t1 rfl rfl rfl) (show X7BX=true by first|exact h22|(rw[h22];rfl)|simp[h22])<|Qm rfl<|zT (Gd.t1 rfl rfl rfl) (show X7BX=true by first|exact h22|(rw[h22];rfl)|simp[h22])<|zBB 1 sp_ rfl (λw hb _ hw=>zq1 c1c X12AT X12SD 3 hb (ok_ hw)) ?_
   rintro _ _ G23 ⟨X23BX,X23AT,X23SD,rfl,rfl,hX23_0,hX23_1⟩
   refine znl ?_
   refine zT (Gd.t1 rfl rfl rfl) (show X7BX=true by first|exact h22|(rw[h22];rfl)|simp[h22])<|Qt rfl<|Qq (a3k rfl rfl rfl)<|JL.nil ?_
   refine zf [0,1,1,1,1] λGG24=>?_
   refine zn ?_
   refine zi (λh25 h25'=>?_) λh25 h25'=>?_
   ·refine Js.region<|Qf fh rfl<|Q0 1 rfl rfl rfl<|Qm rfl<|Qq (a0a el_26 rfl rfl (by omega) (by omega) rfl) ?_
    refine JL.s (a0i (i:=3) (xs':=ints_ ((xs.set k X12KX).set k 0)) ty_2.h rfl rfl rfl rfl rfl rfl (a0q (i:=k) (by simp only[List.length_set];omega)) (a0m (i:=k) (by simp only[List.length_set];omega))) ?_
    rintro _ _ _ ⟨rfl,rfl⟩ _
    refine znl ?_
    refine JL.nil<|Js.blockEnd<|Js.region<|Qm rfl<|Qp rfl rfl<|Qa rfl<|JL.nil ?_
    exact zag ⟨k + 1,X23AT,X23SD,(xs.set k X12KX).set k 0,_,rfl,rfl,by simp only[List.length_set];exact hX,by simp only[List.length_set];omega,zt,zt,rfl⟩ (x9.trans x16) (by simp only[List.length_set];omega)
   refine Js.skip<|Js.blockEnd<|Js.region<|Qm rfl<|Qp rfl rfl<|Qa rfl<|JL.nil ?_
   exact zag ⟨k + 1,X23AT,X23SD,xs.set k X12KX,_,rfl,rfl,by simp only[List.length_set];exact hX,by simp only[List.length_set];omega,zt,zt,rfl⟩ (x9.trans x16) (by simp only[List.length_set];omega)
  refine Js.region<|Qm rfl<|Qm rfl ?_
  refine JL.g (v:=undef) (Gd.t1 rfl rfl rfl) (λhc=>absurd hc (by first|(rw[h22];simp;done)|simp[h22])) ?_
  refine JL.g (v:=.bool false) (Gd.t1 rfl rfl rfl) (λhc=>absurd hc (by first|(rw[h22];simp;done)|simp[h22])) ?_
  refine JL.g (v:=.bool false) (Gd.t1 rfl rfl rfl) (λhc=>absurd hc (by first|(rw[h22];simp;done)|simp[h22])) ?_
  refine Qq (a0d rfl rfl rfl)<|JL.nil ?_
  refine zi (λh27 h27'=>?_) λh27 h27'=>?_
  ·refine Js.region<|Qf fh rfl<|Q0 1 rfl rfl rfl<|Qm rfl<|Qq (a0a el_26 rfl rfl (by omega) (by omega) rfl) ?_
   refine JL.s (a0i (i:=3) (xs':=ints_ ((xs.set k X12KX).set k 0)) ty_2.h rfl rfl rfl rfl rfl rfl (a0q (i:=k) (by simp only[List.length_set];omega)) (a0m (i:=k) (by simp only[List.length_set];omega))) ?_
   rintro _ _ _ ⟨rfl,rfl⟩ _
   refine znl ?_
   refine JL.nil<|Js.blockEnd<|Js.region<|Qm rfl<|Qp rfl rfl<|Qa rfl<|JL.nil ?_
   exact zag ⟨k + 1,X12AT,X12SD,(xs.set k X12KX).set k 0,_,rfl,rfl,by simp only[List.length_set];exact hX,by simp only[List.length_set];omega,zt,zt,rfl⟩ (x9.trans x16) (by simp only[List.length_set];omega)
  refine Js.skip<|Js.blockEnd<|Js.region<|Qm rfl<|Qp rfl rfl<|Qa rfl<|JL.nil ?_
  exact zag ⟨k + 1,X12AT,X12SD,xs.set k X12KX,_,rfl,rfl,by simp only[List.length_set];exact hX,by simp only[List.length_set];omega,zt,zt,rfl⟩ (x9.trans x16) (by simp only[List.length_set];omega)
 refine zx ?_
 refine Js.seq<|zS<|Qm rfl<|zBB 1 sp_ rfl (λw hb _ hw=>zq1 c1c at1 sd1 8 hb (ok_ hw)) ?_
 rintro _ _ G29 ⟨X29BX,X29AT,X29SD,rfl,rfl,hX29_0,hX29_1⟩
 refine znl ?_
 refine JL.nil ?_
 refine zf [0,1,1,1,1] λGG30=>?_
 refine zn ?_
 refine zi (λh31 h31'=>?_) λh31 h31'=>?_
 ·refine zS<|Qm rfl<|zBB 1 sp_ rfl (λw hb _ hw=>zq0 c1c X29AT X29SD 2 hb (ok_ hw)) ?_
  rintro _ _ G32 ⟨X32KX,X32AT,X32SD,rfl,rfl,hX32_0,hX32_1,hX32_2,hX32_3⟩
  refine znl ?_
  refine Qa rfl<|JL.nil ?_
  refine zf [0,1,1,1,1] λGG33=>?_
  refine zn ?_
  have hm9:=M.mul01 (a:=X32KX) (n:=r.pits) (by omega) (by omega) r3 r4
  obtain⟨sd9,hsd9⟩:∃ x:Int,x=X32KX * r.pits:=⟨_,rfl⟩
  refine zS<|Qm rfl<|Qm rfl<|Qc rfl<|Qf fh rfl<|QC ((hr1.vis x9.vis) 0 _ rfl) rfl<|Qu rfl rfl<|Qa rfl<|JL.nil<|Js.block ?_
  refine zl [0,1,4,5,8] (λF U l os u m=>∃ (j:Int) (ys:List Int) (G34_5:List Nat),l=F [(9,.int .i64 j)]/\os=U [nO,nO,nO,some (rowO 2 1 (.slice A4 (((M.startP r).pits).length) c4) (((M.startP r).pits).length) (ints_ ys) []),nO,some (anyO G34_5)]/\(ys.length=(M.startP r).pits.length)/\(sd9<=j)/\(j<=sd9 + r.pits)/\m=(sd9 + r.pits - j).toNat) ⟨X32KX * r.pits,xs,_,rfl,rfl,zt,zt,zt,rfl⟩ ?_
  rintro _ _ u34 _ ⟨j,ys,G34_5,rfl,rfl,hY,hj0,hj1,rfl⟩ x34
  refine zn ?_
  refine Js.seq<|zS<|Qm rfl<|Qm rfl<|Qp rfl rfl<|Qm rfl<|Qc rfl<|Qf fh rfl<|QC ((hr1.vis (x9.vis.trans x34.vis)) 0 _ rfl) rfl<|Qu rfl rfl<|Ql rfl rfl<|JL.nil ?_
  refine zi (λh35 h35'=>?_) λh35 h35'=>?_
  ·refine Js.skip<|Js.seq<|Js.block ?_
   refine Js.fact (a0s (i:=3) rfl (by omega)) (λhf36=>?_)
   obtain⟨b36,rfl⟩:=hf36
   refine Js.region<|Qf fh rfl<|Q0 1 rfl rfl rfl<|Qm rfl<|Qq (a0a el_26 rfl rfl (by omega) (by omega) rfl) ?_
   refine JL.s (a0i (i:=3) (xs':=ints_ (M.setI ys j 0)) ty_2.h rfl rfl rfl rfl rfl rfl (a0q (i:=j.toNat) (by omega)) (a0m (i:=j.toNat) (by omega))) ?_
   rintro _ _ _ ⟨rfl,rfl⟩ _
   refine znl ?_
   refine JL.nil<|Js.blockEnd<|Js.region<|Qm rfl<|Qp rfl rfl<|Qa rfl<|JL.nil ?_
   exact zag ⟨j + 1,M.setI ys j 0,_,rfl,rfl,by simp only[M.a0h,List.length_set];exact hY,zt,zt,rfl⟩ x34
  refine zx ?_
  refine Js.seq ?_
  refine zk [0,4,5] (λF U l os u=>∃ (G38:List Nat) (X38AT X38SD:Int) (b40:Nat) (X38KX:Int),l=F []/\os=[anyO G38]++U [some (boxO bs [.slice As_0 c1c cs_0,.int .i64 X38AT,.int .u64 X38SD] 141),some (boxO b6 [.slice A4 (((M.startP r).pits).length) c4,.slice (some ⟨b40,0,none⟩) (((M.startP r).stores).length) c5,.int .i64 ((M.startP r).player)] 28),some (rowO 2 1 (.slice (some ⟨b40,0,none⟩) (((M.startP r).stores).length) c5) (((M.startP r).stores).length) (ints_ (((M.startP r).stores).set 0 X38KX)) [])]/\(X32AT<=X38AT)/\(X38AT<=X32AT + 2)/\(0<=X38KX)/\(X38KX=0\/X38KX < 8)) ?_ ?_
  ·refine zdr [3,5] ?_
   refine jF 0 a0z rfl rfl ?_
   refine jM 2 rfl rfl ?_
   refine y2 1 3 ?_ ?_
   ·refine JHo.q rfl (a0c ty_26.h rfl (Mem.box (i:=1) rfl rfl)) ?_
    refine y1 3 ?_
    refine yBB 1 sp_ rfl rfl (λw hb _ hw=>zq0 c1c X32AT X32SD 8 hb (ok_ hw)) ?_
    rintro _ _ G45 ⟨X45KX,X45AT,X45SD,rfl,rfl,hX45_0,hX45_1,hX45_2,hX45_3⟩
    refine znh ?_
    refine JH.fact (a0s (i:=3) rfl (by omega)) (λhf47=>?_)
    obtain⟨b47,rfl⟩:=hf47
    refine jI 4 el_26 rfl rfl rfl rfl ?_
    refine y1 5 ?_
    refine JHo.s rfl (a0i (i:=3) (xs':=ints_ (((M.startP r).stores).set 0 X45KX)) ty_2.h rfl rfl rfl rfl rfl rfl (a0q (i:=0) (by omega)) (a0m (i:=0) (by omega))) (.inr rfl) ?_
    rintro _ _ _ ⟨rfl,rfl⟩ _
    refine znh ?_
    refine yd ?_
    refine zh [1,0,0,0,0,0,0] ?_
    exact zm ⟨_,_,_,_,_,rfl,rfl,zt,zt,zt,zt⟩ (Up.refl _ _) ⟨rfl,rfl,rfl,trivial⟩
   refine yBB 1 sp_ rfl rfl (λw hb _ hw=>zq0 c1c X32AT X32SD 8 hb (ok_ hw)) ?_
   rintro _ _ G48 ⟨X48KX,X48AT,X48SD,rfl,rfl,hX48_0,hX48_1,hX48_2,hX48_3⟩
   refine znh ?_
   refine y1 1 ?_
   refine JHo.q rfl (a0c ty_26.h rfl (Mem.box (i:=2) rfl rfl)) ?_
   refine JH.fact (a0s (i:=3) rfl (by omega)) (λhf50=>?_)
   obtain⟨b50,rfl⟩:=hf50
   refine jI 4 el_26 rfl rfl rfl rfl ?_
   refine y1 5 ?_
   refine JHo.s rfl (a0i (i:=3) (xs':=ints_ (((M.startP r).stores).set 0 X48KX)) ty_2.h rfl rfl rfl rfl rfl rfl (a0q (i:=0) (by omega)) (a0m (i:=0) (by omega))) (.inr rfl) ?_
   rintro _ _ _ ⟨rfl,rfl⟩ _
   refine znh ?_
   refine yd ?_
   refine zh [1,0,0,0,0,0,0] ?_
   exact zm ⟨_,_,_,_,_,rfl,rfl,zt,zt,zt,zt⟩ (Up.refl _ _) ⟨rfl,rfl,rfl,trivial⟩
  rintro _ _ u44 ⟨G38,X38AT,X38SD,b40,X38KX,rfl,rfl,f44_0,f44_1,f44_2,f44_3⟩ x44
  refine zn ?_
  refine zf [1,1,1,1,1] λGG51=>?_
  refine zn ?_
  refine Js.seq ?_
  refine zk [0,4,5] (λF U l os u=>∃ (G52:List Nat) (X52AT X52SD X52KX:Int),l=F []/\os=[anyO G52]++U [some (boxO bs [.slice As_0 c1c cs_0,.int .i64 X52AT,.int .u64 X52SD] 141),nO,some (rowO 2 1 (.slice (some ⟨b40,0,none⟩) (((M.startP r).stores).length) c5) (((M.startP r).stores).length) (ints_ ((((M.startP r).stores).set 0 X38KX).set 1 X52KX)) [])]/\(X38AT<=X52AT)/\(X52AT<=X38AT + 2)/\(0<=X52KX)/\(X52KX=0\/X52KX < 8)) ?_ ?_
  ·refine zdr [3,5] ?_
   refine jF 0 a0z rfl rfl ?_
   refine jM 2 rfl rfl ?_
   refine y2 1 3 ?_ ?_
   ·refine JHo.q rfl (a0c ty_26.h rfl (Mem.box (i:=1) rfl rfl)) ?_
    refine y1 3 ?_
    refine yBB 1 sp_ rfl rfl (λw hb _ hw=>zq0 c1c X38AT X38SD 8 hb (ok_ hw)) ?_
    rintro _ _ G57 ⟨X57KX,X57AT,X57SD,rfl,rfl,hX57_0,hX57_1,hX57_2,hX57_3⟩
    refine znh ?_
    refine jI 4 el_26 rfl rfl rfl rfl ?_
    refine y1 5 ?_
    refine JHo.s rfl (a0i (i:=3) (xs':=ints_ ((((M.startP r).stores).set 0 X38KX).set 1 X57KX)) ty_2.h rfl rfl rfl rfl rfl rfl (a0q (i:=1) (by first|omega|(simp only[List.length_set,M.a0h];omega))) (a0m (i:=1) (by first|omega|(simp only[List.length_set,M.a0h];omega)))) (.inr rfl) ?_
    rintro _ _ _ ⟨rfl,rfl⟩ _
    refine znh ?_
    refine yd ?_
    refine zh [1,0,0,0,0,0,0] ?_
    exact zm ⟨_,_,_,_,rfl,rfl,zt,zt,zt,zt⟩ (Up.refl _ _) ⟨rfl,rfl,rfl,trivial⟩
   refine yBB 1 sp_ rfl rfl (λw hb _ hw=>zq0 c1c X38AT X38SD 8 hb (ok_ hw)) ?_
   rintro _ _ G59 ⟨X59KX,X59AT,X59SD,rfl,rfl,hX59_0,hX59_1,hX59_2,hX59_3⟩
   refine znh ?_
   refine y1 1 ?_
   refine JHo.q rfl (a0c ty_26.h rfl (Mem.box (i:=2) rfl rfl)) ?_
   refine jI 4 el_26 rfl rfl rfl rfl ?_
   refine y1 5 ?_
   refine JHo.s rfl (a0i (i:=3) (xs':=ints_ ((((M.startP r).stores).set 0 X38KX).set 1 X59KX)) ty_2.h rfl rfl rfl rfl rfl rfl (a0q (i:=1) (by first|omega|(simp only[List.length_set,M.a0h];omega))) (a0m (i:=1) (by first|omega|(simp only[List.length_set,M.a0h];omega)))) (.inr rfl) ?_
   rintro _ _ _ ⟨rfl,rfl⟩ _
   refine znh ?_
   refine yd ?_
   refine zh [1,0,0,0,0,0,0] ?_
   exact zm ⟨_,_,_,_,rfl,rfl,zt,zt,zt,zt⟩ (Up.refl _ _) ⟨rfl,rfl,rfl,trivial⟩
  rintro _ _ u56 ⟨G52,X52AT,X52SD,X52KX,rfl,rfl,f56_0,f56_1,f56_2,f56_3⟩ x56
  refine zn ?_
  refine zf [1,1,1,1,1] λGG61=>?_
  refine zn ?_
  refine zS<|Qm rfl<|zBB 1 sp_ rfl (λw hb _ hw=>zq0 c1c X52AT X52SD 2 hb (ok_ hw)) ?_
  rintro _ _ G62 ⟨X62KX,X62AT,X62SD,rfl,rfl,hX62_0,hX62_1,hX62_2,hX62_3⟩
  refine znl ?_
  refine Qf fh rfl<|zw 2 rfl rfl rfl ?_
  refine JL.nil ?_
  refine zf [0,1,1,1,1] λGG63=>?_
  refine zn ?_
  refine zS<|Q9 1 rfl rfl ?_
  refine zw 4 rfl rfl rfl ?_
  refine JL.nil ?_
  refine zf [0,1,1,1] λGG64=>?_
  refine zn ?_
  refine zrb [0,1,0] hb (((x9.trans x34).trans x44).trans x56) ?_
  have hNr0:ys.length=((M.startP r).pits).length:=by first|rfl|assumption|omega|(simp only[List.length_set,M.a0h];done)|(simp only[List.length_set,M.a0h];first|rfl|assumption|omega)
  have hNr1:((((M.startP r).stores).set 0 X38KX).set 1 X52KX).length=((M.startP r).stores).length:=by first|rfl|assumption|omega|(simp only[List.length_set,M.a0h];done)|(simp only[List.length_set,M.a0h];first|rfl|assumption|omega)
  refine⟨((M.Pos.mk ys ((((M.startP r).stores).set 0 X38KX).set 1 X52KX) X62KX)),(X62AT),(X62SD),A4,c4,[],(some ⟨b40,0,none⟩),c5,[],(show(.agg #[.slice A4 (((M.startP r).pits).length) c4,.slice (some ⟨b40,0,none⟩) (((M.startP r).stores).length) c5,.int .i64 X62KX]:Value)=.agg #[.slice A4 ys.length c4,.slice (some ⟨b40,0,none⟩) ((((M.startP r).stores).set 0 X38KX).set 1 X52KX).length c5,.int .i64 X62KX] by rw[hNr0,hNr1]), ?_, ?_, ?_, ?_, ?_,by first|trivial|omega|decide|(dsimp only;omega),by first|trivial|omega|decide|(dsimp only;omega),by first|trivial|omega|decide|(dsimp only;omega)⟩
  · first|rfl|(dsimp only;rw[hNr0,hNr1];done)|(dsimp only;rw[hNr0,hNr1];rfl)|(dsimp only;simp only[hNr0,hNr1])|(rw[hNr0,hNr1];done)|(rw[hNr0,hNr1];rfl)
  all_goals (try dsimp only)
  all_goals (first|(rw[hNr0,hNr1];omega)|omega|(simp only[*];omega)|(simp;done))
 refine Js.skip<|Js.seq ?_
 refine zk [0,4,5] (λF U l os u=>∃ (G65:List Nat) (X65AT X65SD:Int) (b67:Nat) (X65KX:Int),l=F []/\os=[anyO G65]++U [some (boxO bs [.slice As_0 c1c cs_0,.int .i64 X65AT,.int .u64 X65SD] 141),some (boxO b6 [.slice A4 (((M.startP r).pits).length) c4,.slice (some ⟨b67,0,none⟩) (((M.startP r).stores).length) c5,.int .i64 ((M.startP r).player)] 28),some (rowO 2 1 (.slice (some ⟨b67,0,none⟩) (((M.startP r).stores).length) c5) (((M.startP r).stores).length) (ints_ (((M.startP r).stores).set 0 X65KX)) [])]/\(X29AT<=X65AT)/\(X65AT<=X29AT + 2)/\(0<=X65KX)/\(X65KX=0\/X65KX < 8)) ?_ ?_
 ·refine zdr [3,5] ?_
  refine jF 0 a0z rfl rfl ?_
  refine jM 2 rfl rfl ?_
  refine y2 1 3 ?_ ?_
  ·refine JHo.q rfl (a0c ty_26.h rfl (Mem.box (i:=1) rfl rfl)) ?_
   refine y1 3 ?_
   refine yBB 1 sp_ rfl rfl (λw hb _ hw=>zq0 c1c X29AT X29SD 8 hb (ok_ hw)) ?_
   rintro _ _ G72 ⟨X72KX,X72AT,X72SD,rfl,rfl,hX72_0,hX72_1,hX72_2,hX72_3⟩
   refine znh ?_
   refine JH.fact (a0s (i:=3) rfl (by omega)) (λhf74=>?_)
   obtain⟨b74,rfl⟩:=hf74
   refine jI 4 el_26 rfl rfl rfl rfl ?_
   refine y1 5 ?_
   refine JHo.s rfl (a0i (i:=3) (xs':=ints_ (((M.startP r).stores).set 0 X72KX)) ty_2.h rfl rfl rfl rfl rfl rfl (a0q (i:=0) (by omega)) (a0m (i:=0) (by omega))) (.inr rfl) ?_
   rintro _ _ _ ⟨rfl,rfl⟩ _
   refine znh ?_
   refine yd ?_
   refine zh [1,0,0,0,0,0,0] ?_
   exact zm ⟨_,_,_,_,_,rfl,rfl,zt,zt,zt,zt⟩ (Up.refl _ _) ⟨rfl,rfl,rfl,trivial⟩
  refine yBB 1 sp_ rfl rfl (λw hb _ hw=>zq0 c1c X29AT X29SD 8 hb (ok_ hw)) ?_
  rintro _ _ G75 ⟨X75KX,X75AT,X75SD,rfl,rfl,hX75_0,hX75_1,hX75_2,hX75_3⟩
  refine znh ?_
  refine y1 1 ?_
  refine JHo.q rfl (a0c ty_26.h rfl (Mem.box (i:=2) rfl rfl)) ?_
  refine JH.fact (a0s (i:=3) rfl (by omega)) (λhf77=>?_)
  obtain⟨b77,rfl⟩:=hf77
  refine jI 4 el_26 rfl rfl rfl rfl ?_
  refine y1 5 ?_
  refine JHo.s rfl (a0i (i:=3) (xs':=ints_ (((M.startP r).stores).set 0 X75KX)) ty_2.h rfl rfl rfl rfl rfl rfl (a0q (i:=0) (by omega)) (a0m (i:=0) (by omega))) (.inr rfl) ?_
  rintro _ _ _ ⟨rfl,rfl⟩ _
  refine znh ?_
  refine yd ?_
  refine zh [1,0,0,0,0,0,0] ?_
  exact zm ⟨_,_,_,_,_,rfl,rfl,zt,zt,zt,zt⟩ (Up.refl _ _) ⟨rfl,rfl,rfl,trivial⟩
 rintro _ _ u71 ⟨G65,X65AT,X65SD,b67,X65KX,rfl,rfl,f71_0,f71_1,f71_2,f71_3⟩ x71
 refine zn ?_
 refine zf [1,1,1,1,1] λGG78=>?_
 refine zn ?_
 refine Js.seq ?_
 refine zk [0,4,5] (λF U l os u=>∃ (G79:List Nat) (X79AT X79SD X79KX:Int),l=F []/\os=[anyO G79]++U [some (boxO bs [.slice As_0 c1c cs_0,.int .i64 X79AT,.int .u64 X79SD] 141),nO,some (rowO 2 1 (.slice (some ⟨b67,0,none⟩) (((M.startP r).stores).length) c5) (((M.startP r).stores).length) (ints_ ((((M.startP r).stores).set 0 X65KX).set 1 X79KX)) [])]/\(X65AT<=X79AT)/\(X79AT<=X65AT + 2)/\(0<=X79KX)/\(X79KX=0\/X79KX < 8)) ?_ ?_
 ·refine zdr [3,5] ?_
  refine jF 0 a0z rfl rfl ?_
  refine jM 2 rfl rfl ?_
  refine y2 1 3 ?_ ?_
  ·refine JHo.q rfl (a0c ty_26.h rfl (Mem.box (i:=1) rfl rfl)) ?_
   refine y1 3 ?_
   refine yBB 1 sp_ rfl rfl (λw hb _ hw=>zq0 c1c X65AT X65SD 8 hb (ok_ hw)) ?_
   rintro _ _ G84 ⟨X84KX,X84AT,X84SD,rfl,rfl,hX84_0,hX84_1,hX84_2,hX84_3⟩
   refine znh ?_
   refine jI 4 el_26 rfl rfl rfl rfl ?_
   refine y1 5 ?_
   refine JHo.s rfl (a0i (i:=3) (xs':=ints_ ((((M.startP r).stores).set 0 X65KX).set 1 X84KX)) ty_2.h rfl rfl rfl rfl rfl rfl (a0q (i:=1) (by first|omega|(simp only[List.length_set,M.a0h];omega))) (a0m (i:=1) (by first|omega|(simp only[List.length_set,M.a0h];omega)))) (.inr rfl) ?_
   rintro _ _ _ ⟨rfl,rfl⟩ _
   refine znh ?_
   refine yd ?_
   refine zh [1,0,0,0,0,0,0] ?_
   exact zm ⟨_,_,_,_,rfl,rfl,zt,zt,zt,zt⟩ (Up.refl _ _) ⟨rfl,rfl,rfl,trivial⟩
  refine yBB 1 sp_ rfl rfl (λw hb _ hw=>zq0 c1c X65AT X65SD 8 hb (ok_ hw)) ?_
  rintro _ _ G86 ⟨X86KX,X86AT,X86SD,rfl,rfl,hX86_0,hX86_1,hX86_2,hX86_3⟩
  refine znh ?_
  refine y1 1 ?_
  refine JHo.q rfl (a0c ty_26.h rfl (Mem.box (i:=2) rfl rfl)) ?_
  refine jI 4 el_26 rfl rfl rfl rfl ?_
  refine y1 5 ?_
  refine JHo.s rfl (a0i (i:=3) (xs':=ints_ ((((M.startP r).stores).set 0 X65KX).set 1 X86KX)) ty_2.h rfl rfl rfl rfl rfl rfl (a0q (i:=1) (by first|omega|(simp only[List.length_set,M.a0h];omega))) (a0m (i:=1) (by first|omega|(simp only[List.length_set,M.a0h];omega)))) (.inr rfl) ?_
  rintro _ _ _ ⟨rfl,rfl⟩ _
  refine znh ?_
  refine yd ?_
  refine zh [1,0,0,0,0,0,0] ?_
  exact zm ⟨_,_,_,_,rfl,rfl,zt,zt,zt,zt⟩ (Up.refl _ _) ⟨rfl,rfl,rfl,trivial⟩
 rintro _ _ u83 ⟨G79,X79AT,X79SD,X79KX,rfl,rfl,f83_0,f83_1,f83_2,f83_3⟩ x83
 refine zn ?_
 refine zf [1,1,1,1,1] λGG88=>?_
 refine zn ?_
 refine zS<|Qm rfl<|zBB 1 sp_ rfl (λw hb _ hw=>zq0 c1c X79AT X79SD 2 hb (ok_ hw)) ?_
 rintro _ _ G89 ⟨X89KX,X89AT,X89SD,rfl,rfl,hX89_0,hX89_1,hX89_2,hX89_3⟩
 refine znl ?_
 refine Qf fh rfl<|zw 2 rfl rfl rfl ?_
 refine JL.nil ?_
 refine zf [0,1,1,1,1] λGG90=>?_
 refine zn ?_
 refine zS<|Q9 1 rfl rfl ?_
 refine zw 4 rfl rfl rfl ?_
 refine JL.nil ?_
 refine zf [0,1,1,1] λGG91=>?_
 refine zn ?_
 refine zrb [0,1,0] hb ((x9.trans x71).trans x83) ?_
 have hNr0:xs.length=((M.startP r).pits).length:=by first|rfl|assumption|omega|(simp only[List.length_set,M.a0h];done)|(simp only[List.length_set,M.a0h];first|rfl|assumption|omega)
 have hNr1:((((M.startP r).stores).set 0 X65KX).set 1 X79KX).length=((M.startP r).stores).length:=by first|rfl|assumption|omega|(simp only[List.length_set,M.a0h];done)|(simp only[List.length_set,M.a0h];first|rfl|assumption|omega)
 refine⟨((M.Pos.mk xs ((((M.startP r).stores).set 0 X65KX).set 1 X79KX) X89KX)),(X89AT),(X89SD),A4,c4,[],(some ⟨b67,0,none⟩),c5,[],(show(.agg #[.slice A4 (((M.startP r).pits).length) c4,.slice (some ⟨b67,0,none⟩) (((M.startP r).stores).length) c5,.int .i64 X89KX]:Value)=.agg #[.slice A4 xs.length c4,.slice (some ⟨b67,0,none⟩) ((((M.startP r).stores).set 0 X65KX).set 1 X79KX).length c5,.int .i64 X89KX] by rw[hNr0,hNr1]), ?_, ?_, ?_, ?_, ?_,by first|trivial|omega|decide|(dsimp only;omega),by first|trivial|omega|decide|(dsimp only;omega),by first|trivial|omega|decide|(dsimp only;omega)⟩
 · first|rfl|(dsimp only;rw[hNr0,hNr1];done)|(dsimp only;rw[hNr0,hNr1];rfl)|(dsimp only;simp only[hNr0,hNr1])|(rw[hNr0,hNr1];done)|(rw[hNr0,hNr1];rfl)
 all_goals (try dsimp only)
 all_goals (first|(rw[hNr0,hNr1];omega)|omega|(simp only[*];omega)|(simp;done))
theorem zq81(r:M.Rul){v_r:Value}(p:M.Pos){v_p:Value}{w:World}(h_r:(Ty.agg (cRules r)).ok w v_r)(h_p:(Ty.agg (cPosition p)).ok w v_p)(r0:p.pits.length<=4194304:=by exact om_)(r1:p.stores.length<=4194304:=by exact om_):Ret Tryz.prog 168 [v_r,v_p] w (Ty.tup [Ty.ints 2 (M.legal r p),Ty.ex (fun (CX:Int)=>True) (λCX=>Ty.int CX)]):=by
 revert v_r;apply opn
 revert v_p;apply opn
 intro A1 c1 h1 bl1 bh1 A2 c2 h2 bl2 bh2
 refine enter @Tryz.func168 @Tryz.ntmps168 rfl rfl ?_
 refine zent ?_
 refine zS<|zb rfl λb3=>zb rfl λb4=>Qa rfl<|Qa rfl<|zJ<|zS<|zv rfl (λw hw=>zq25 r p (ok_ hw) (ok_ hw))<|Qt rfl<|JL.nil ?_
 refine zi (λh5 h5'=>?_) λh5 h5'=>?_
 ·have hE:=M.b8f (r:=r) (p:=p) (by simpa using h5)
  have hq0:[]=M.legal r p:=by first|exact hE|(rw[hE];done)
  refine zS<|Qa rfl<|Qa rfl<|JL.nil ?_
  exact zro (Up.refl _ _) (g:=by exact(a2o (gvc gv_ (gvc (gv_ex 1 (by first|trivial|omega|decide|(dsimp only;omega)) gv_) gvn))))
 have hok:M.okP r p=true:=by simpa using h5
 have g8:=M.b5l hok
 refine Js.skip<|zS<|zbs λb6=>?_
 refine Qa rfl<|zN<|zp rfl (λw hw=>zq138 r p (ok_ hw) (ok_ hw) (r0:=hok)) ?_
 intro u8 x8 A9 c9 h9 bl9 bh9
 refine Qa rfl<|zJ<|zS<|Qa rfl<|JL.nil<|Js.block ?_
 refine zl [7] (λF U l os u m=>∃ (k:Nat) (acc:List Int) (A10_6:Option Addr) (c10_6:Nat) (g10_6:List Nat),l=F [(6,.slice A10_6 acc.length c10_6),(8,.int .i64 (k:Int))]/\os=U [some (rowO 2 1 (.slice A10_6 acc.length c10_6) acc.length (ints_ acc) g10_6)]/\(acc=((M.results r p).map (·.move)).take k)/\(k<=(M.results r p).length)/\(acc.length=k)/\(acc.length<=c10_6)/\(c10_6<=9223372036854775807)/\m=(M.results r p).length - k) ⟨0,[],_,_,_,rfl,rfl,by rfl,zt,by rfl,zu,zu,rfl⟩ ?_
 rintro _ _ u10 _ ⟨k,acc,A10_6,c10_6,g10_6,rfl,rfl,hA,hk,hl,f10_3,f10_4,rfl⟩ x10
 refine zn ?_
 refine Js.seq<|zS<|Qm rfl<|Qm rfl<|Qz rfl<|Ql rfl rfl<|JL.nil ?_
 refine zi (λh11 h11'=>?_) λh11 h11'=>?_
 ·obtain⟨y12,hy12⟩:∃ x,(M.results r p)[k]?=some x:=⟨_,List.getElem?_eq_getElem (by omega)⟩
  obtain⟨b12,o12,A12_3,c12_3,A12_4,c12_4,he12,hr12,h12_3,h12_4,bl12_3,bh12_3,bl12_4,bh12_4⟩:=b6h (Ty.mono _ h9 x10.vis) hy12
  refine Js.skip<|Js.seq<|Js.block<|Js.region<|Qm rfl<|Qm rfl<|Qm rfl<|Qq (a0a a3a rfl rfl (by omega) (by omega) he12)<|Qf fh rfl<|QC (hr12 0 _ rfl) rfl<|zbs λb13=>?_
  refine JL.e (a0g (i:=1) (n':=(acc++[y12.move]).length) (vs':=ints_ (acc++[y12.move])) el_26 rfl rfl rfl rfl (a0k (i:=0) a1h rfl rfl) (by omega) (by omega) ln2_ (by simp[ints_])) ?_
  rintro v15 _ _ ⟨⟨g16,rfl⟩,rfl⟩ _
  refine JL.fact (row_form' (i:=1) rfl) (λhf17=>?_)
  obtain⟨A17,c17,rfl,bl17,bh17⟩:=hf17
  refine znl ?_
  refine Qa rfl<|JL.nil<|Js.blockEnd<|Js.region<|Qm rfl<|Qp rfl rfl<|Qa rfl<|JL.nil ?_
  refine zd [1,1,1] rfl λu18 x18=>?_
  exact zag ⟨k + 1,acc++[y12.move],_,_,_,rfl,rfl,by rw[hA];exact(M.c0j (by assumption)).symm,zt,by simp[hl],zu,zu,rfl⟩ (x10.trans x18)
 have hE:acc=M.legal r p:=by rw[hA,M.b4a hok,List.take_of_length_le (by rw[List.length_map];have:=h11';omega)]
 refine zx ?_
 have hq0:acc=M.legal r p:=by first|exact hE|(rw[hE];done)
 refine zS<|Qm rfl<|Qa rfl<|Qa rfl<|JL.nil ?_
 exact zro (x8.trans x10) (g:=by exact(a2o (gvc gv_ (gvc (gv_ex 0 (by first|trivial|omega|decide|(dsimp only;omega)) gv_) gvn))))
theorem zq47(c1c:Nat)(s_at s_seed:Int){As_0:Option Addr}{cs_0:Nat}(g:M.Gam){v_g:Value}{bs:Nat}{w:World}(hb:Bw w [boxO bs [.slice As_0 c1c cs_0,.int .i64 s_at,.int .u64 s_seed] 141])(hps_0:(Ty.bytes 5 c1c).ok (offW w (([boxO bs [.slice As_0 c1c cs_0,.int .i64 s_at,.int .u64 s_seed] 141]:List Own).flatMap (·.fp))) (.slice As_0 c1c cs_0))(h_g:(Ty.ref (cGame g)).ok (offW w (([boxO bs [.slice As_0 c1c cs_0,.int .i64 s_at,.int .u64 s_seed] 141]:List Own).flatMap (·.fp))) v_g)(r0:0<=s_at:=by exact om_)(r1:s_at<=999999998:=by exact om_)(r2:c1c<=1048576:=by exact om_)(r3:g.start.pits.length<=4194304:=by exact om_)(r4:g.start.stores.length<=4194304:=by exact om_)(r5:g.moves.length<=4194304:=by exact om_)(r6:g.now.pits.length<=4194304:=by exact om_)(r7:g.now.stores.length<=4194304:=by exact om_):RetB Tryz.prog 167 [.pointer (some ⟨bs,0,none⟩),v_g] w [boxO bs [.slice As_0 c1c cs_0,.int .i64 s_at,.int .u64 s_seed] 141] (λv bs'=>∃ (KX AT SD:Int),v=.int .i64 KX/\bs'=[boxO bs [.slice As_0 c1c cs_0,.int .i64 AT,.int .u64 SD] 141]/\(s_at<=AT)/\(AT<=s_at + 2)):=by
 have hll:=M.b5b g.rules g.now
 revert v_g;apply opn
 intro b6 o6 A1 c1 h1 bl1 bh1 A2 c2 h2 bl2 bh2 A3 c3 h3 bl3 bh3 A4 c4 h4 bl4 bh4 A5 c5 h5 bl5 bh5 hr6
 refine enterB hb @Tryz.func167 @Tryz.ntmps167 rfl rfl ?_
 refine zent ?_
 refine Js.trashE ?_
 refine zn ?_
 refine zS<|Qa rfl<|zJ ?_
 refine zdr [] ?_
 refine jM 0 rfl rfl ?_
 refine jN 1 rfl rfl ?_
 refine jF 2 a1u rfl rfl ?_
 refine JH.w 3 rfl (λos' u' hv=>LS 0 (hr6.vis hv) rfl) ?_
 refine jM 4 rfl rfl ?_
 refine jN 5 rfl rfl ?_
 refine jF 6 a1r rfl rfl ?_
 refine JH.w 7 rfl (λos' u' hv=>LS 13 (hr6.vis hv) rfl) ?_
 refine y1 8 ?_
 refine yp rfl rfl (λw hw=>zq81 g.rules g.now (ok_ hw) (ok_ hw)) ?_
 intro u7 x7 A8 c8 h8 bl8 bh8 X9 hX9
 refine jM 9 rfl rfl ?_
 refine JH.p 10 rfl (a0p rfl rfl) ?_
 refine JH.p 11 rfl (a0p rfl rfl) ?_
 refine jA 12 rfl rfl ?_
 refine jA 13 rfl rfl ?_
 refine yd ?_
 refine Js.seq<|zS<|Qm rfl<|Qz rfl<|Qe rfl rfl<|JL.nil ?_
 refine zi (λh10 h10'=>?_) λh10 h10'=>?_
 ·refine zS<|Qa rfl<|JL.nil ?_
  refine zrb [0] hb x7 ?_
  refine⟨((-1)),(s_at),(s_seed),rfl, ?_,by first|trivial|omega|decide|(dsimp only;omega),by first|trivial|omega|decide|(dsimp only;omega)⟩
  · rfl
 refine Js.skip<|zS<|Qm rfl<|Qm rfl<|Qm rfl<|Qz rfl<|zBB 1 sp_ rfl (λw hb _ hw=>zq0 c1c s_at s_seed (((M.legal g.rules g.now).length):Int) hb (ok_ hw)) ?_
 rintro _ _ G11 ⟨X11KX,X11AT,X11SD,rfl,rfl,hX11_0,hX11_1,hX11_2,hX11_3⟩
 refine znl ?_
 obtain⟨b12,o12,he12,hc12⟩:=a0l h8 (i:=X11KX.toNat) (by omega)
 refine Qq (a0a el_26 rfl rfl (by omega) (by omega) he12)<|QC hc12 rfl<|Qa rfl<|JL.nil ?_
 refine zrb [0] hb x7 ?_
 refine⟨(M.nth (M.legal g.rules g.now) X11KX.toNat),(X11AT),(X11SD),rfl, ?_,by first|trivial|omega|decide|(dsimp only;omega),by first|trivial|omega|decide|(dsimp only;omega)⟩
 · rfl
theorem zq14(r:M.Rul){v_r:Value}(p:M.Pos){v_p:Value}{w:World}(h_r:(Ty.ref (cRules r)).ok w v_r)(h_p:(Ty.ref (cPosition p)).ok w v_p)(r0:p.pits.length<=4194304:=by exact om_)(r1:p.stores.length<=4194304:=by exact om_):Ret Tryz.prog 157 [v_r,v_p] w (Ty.agg (cGame (M.Gam.mk r p [] p (-1)))):=by
 revert v_r;apply opn
 intro b1 o1 hr1
 revert v_p;apply opn
 intro b4 o4 A2 c2 h2 bl2 bh2 A3 c3 h3 bl3 bh3 hr4
 refine enter @Tryz.func157 @Tryz.ntmps157 rfl rfl ?_
 refine zent ?_
 refine zS<|za zeh λb5=>zJ ?_
 refine zdr [8] ?_
 refine jM 0 rfl rfl ?_
 refine jN 1 rfl rfl ?_
 refine JH.w 2 rfl (λos' u' hv=>LS 0 (hr1.vis hv) rfl) ?_
 refine jM 3 rfl rfl ?_
 refine jM 5 rfl rfl ?_
 refine y1 4 ?_
 refine yc rfl rfl (λw hw=>zq10 p (ok_ hw)) ?_
 intro A7 c7 bl7 bh7 A8 c8 bl8 bh8
 refine y1 6 ?_
 refine yc rfl rfl (λw hw=>zq10 p (ok_ hw)) ?_
 intro A10 c10 bl10 bh10 A11 c11 bl11 bh11
 refine JH.p 7 rfl (q_bld) ?_
 refine y1 8 ?_
 refine yst rfl rfl rfl ?_
 refine yd ?_
 exact zro (Up.refl _ _)
theorem zq142(c1c:Nat)(s_at s_seed:Int){As_0:Option Addr}{cs_0:Nat}(most:Int){bs:Nat}{w:World}(hb:Bw w [boxO bs [.slice As_0 c1c cs_0,.int .i64 s_at,.int .u64 s_seed] 141])(hps_0:(Ty.bytes 5 c1c).ok (offW w (([boxO bs [.slice As_0 c1c cs_0,.int .i64 s_at,.int .u64 s_seed] 141]:List Own).flatMap (·.fp))) (.slice As_0 c1c cs_0))(r0:0<=s_at:=by exact om_)(r1:s_at<=999999000:=by exact om_)(r2:c1c<=1048576:=by exact om_)(r3:0<=most:=by exact om_)(r4:most<=20:=by exact om_):RetB Tryz.prog 121 [.pointer (some ⟨bs,0,none⟩),.int .i64 most] w [boxO bs [.slice As_0 c1c cs_0,.int .i64 s_at,.int .u64 s_seed] 141] (λv bs'=>∃ (GX:M.Gam) (AT SD:Int) (Axr_9:Option Addr) (cxr_9:Nat) (gxr_9:List Nat) (Axr_10:Option Addr) (cxr_10:Nat) (gxr_10:List Nat) (Axr_12:Option Addr) (cxr_12:Nat) (gxr_12:List Nat) (Axr_13:Option Addr) (cxr_13:Nat) (gxr_13:List Nat) (Axr_14:Option Addr) (cxr_14:Nat) (gxr_14:List Nat),v=.agg #[.int .i64 GX.rules.pits,.int .i64 GX.rules.seeds,.bool GX.rules.stores,.bool GX.rules.skip,.bool GX.rules.relay,.bool GX.rules.feed,.bool GX.rules.again,.int .i64 GX.rules.capture,.int .i64 GX.rules.slam,.slice Axr_9 GX.start.pits.length cxr_9,.slice Axr_10 GX.start.stores.length cxr_10,.int .i64 GX.start.player,.slice Axr_12 GX.moves.length cxr_12,.slice Axr_13 GX.now.pits.length cxr_13,.slice Axr_14 GX.now.stores.length cxr_14,.int .i64 GX.now.player,.int .i64 GX.resigned]/\bs'=[boxO bs [.slice As_0 c1c cs_0,.int .i64 AT,.int .u64 SD] 141,rowO 2 1 (.slice Axr_9 GX.start.pits.length cxr_9) GX.start.pits.length (ints_ GX.start.pits) gxr_9,rowO 2 1 (.slice Axr_10 GX.start.stores.length cxr_10) GX.start.stores.length (ints_ GX.start.stores) gxr_10,rowO 2 1 (.slice Axr_12 GX.moves.length cxr_12) GX.moves.length (ints_ GX.moves) gxr_12,rowO 2 1 (.slice Axr_13 GX.now.pits.length cxr_13) GX.now.pits.length (ints_ GX.now.pits) gxr_13,rowO 2 1 (.slice Axr_14 GX.now.stores.length cxr_14) GX.now.stores.length (ints_ GX.now.stores) gxr_14]/\GX.start.pits.length<=cxr_9/\cxr_9<=9223372036854775807/\GX.start.stores.length<=cxr_10/\cxr_10<=9223372036854775807/\GX.moves.length<=cxr_12/\cxr_12<=9223372036854775807/\GX.now.pits.length<=cxr_13/\cxr_13<=9223372036854775807/\GX.now.stores.length<=cxr_14/\cxr_14<=9223372036854775807/\(M.Small GX/\GX.moves.length<=121/\GX.now.stores.length=2/\1<=GX.now.pits.length)/\(s_at<=AT)/\(AT<=s_at + 1000)):=by
 refine enterB hb @Tryz.func121 @Tryz.ntmps121 rfl rfl ?_
 refine zent ?_
 refine Js.trashE ?_
 refine zn ?_
 refine zS<|za zeh λb1=>zN<|Qm rfl ?_
 refine zhl [1] ?_
 refine zBB 1 sp_ rfl (λw hb _ hw=>zq140 c1c s_at s_seed hb (ok_ hw)) ?_
 rintro _ _ G2 ⟨X2RX,X2AT,X2SD,rfl,rfl,hX2_0,hX2_1,hX2_2⟩
 refine znl ?_
 refine za zeh λb3=>zw 0 rfl rfl rfl ?_
 refine JL.nil ?_
 refine zf [0,0,1] λGG4=>?_
 refine zn ?_
 refine Js.seq<|zS<|Qm rfl ?_
 refine zhl [1] ?_
 refine zBB 1 sp_ rfl (λw hb _ hw=>zq1 c1c X2AT X2SD 2 hb (ok_ hw)) ?_
 rintro _ _ G5 ⟨X5BX,X5AT,X5SD,rfl,rfl,hX5_0,hX5_1⟩
 refine znl ?_
 refine JL.nil ?_
 refine zf [0,1,1] λGG6=>?_
 refine zn ?_
 refine zk [0,1,4,5] (λF U l os u=>∃ (rr:M.Rul) (at2 sd2:Int) (G7_3:List Nat),l=F []/\os=U [some (boxO bs [.slice As_0 c1c cs_0,.int .i64 at2,.int .u64 sd2] 141),some (boxO b3 [.int .i64 rr.pits,.int .i64 rr.seeds,.bool rr.stores,.bool rr.skip,.bool rr.relay,.bool rr.feed,.bool rr.again,.int .i64 rr.capture,.int .i64 rr.slam] 25),nO,some (anyO G7_3)]/\(2<=rr.pits/\rr.pits<=8)/\(s_at<=at2)/\(at2<=s_at + 50)) ?_ ?_
 ·refine zi (λh8 h8'=>?_) λh8 h8'=>?_
  ·refine Js.region<|Qm rfl<|zp rfl (λw hw=>zq18) ?_
   intro u9 x9 A10 c10 h10 bl10 bh10
   refine zBB 1 sp_ rfl (λw hb _ hw=>zq19 c1c X5AT X5SD M.stdNames hb (ok_ hw) (ok_ hw) (r3:=(by decide)) (r4:=(by decide))) ?_
   rintro _ _ G11 ⟨X11TX,X11AT,X11SD,rfl,rfl,hX11_0,hX11_1,hX11_2⟩
   refine znl ?_
   refine zp rfl (λw hw=>zq80 X11TX (r0:=(by assumption))) ?_
   intro u12 x12 X13 hX13 X14 hX14
   refine Qm rfl<|Qx rfl rfl<|Qx rfl rfl<|zw 2 rfl rfl rfl ?_
   refine JL.nil ?_
   refine zf [0,1,1] λGG15=>?_
   refine zn ?_
   exact zm ⟨(X13),(X11AT),(X11SD),_,rfl,rfl,by first|assumption|omega|rfl|(dsimp only;omega)|(simp;done),by first|assumption|omega|rfl|(dsimp only;omega)|(simp;done),by first|assumption|omega|rfl|(dsimp only;omega)|(simp;done)⟩ (x9.trans x12)
  refine Js.skip ?_
  exact zm ⟨(X2RX),(X5AT),(X5SD),_,rfl,rfl,by first|assumption|omega|rfl|(dsimp only;omega)|(simp;done),by first|assumption|omega|rfl|(dsimp only;omega)|(simp;done),by first|assumption|omega|rfl|(dsimp only;omega)|(simp;done)⟩ (Up.refl _ _)
 rintro _ _ u7 ⟨rr,at2,sd2,G7_3,rfl,rfl,hr9,hb0,hb1⟩ x7
 refine zn ?_
 refine zS<|zc rfl (λw hw=>zq20 rr (ok_ hw)) ?_
 intro A17 c17 bl17 bh17 A18 c18 bl18 bh18
 have hl0:(M.startP rr).pits.length=(2 * (rr).pits).toNat:=by simp[M.startP]
 have hl1:(M.startP rr).stores.length=2:=rfl
 refine za zeh λb19=>zw 0 rfl rfl rfl ?_
 refine zJ<|zS<|Qm rfl ?_
 refine zhl [3] ?_
 refine zBB 1 sp_ rfl (λw hb _ hw=>zq1 c1c at2 sd2 3 hb (ok_ hw)) ?_
 rintro _ _ G20 ⟨X20BX,X20AT,X20SD,rfl,rfl,hX20_0,hX20_1⟩
 refine znl ?_
 refine JL.nil ?_
 refine zf [0,1,1,1,1,1] λGG21=>?_
 refine zn ?_
 refine zk [0,1,4,5,6] (λF U l os u=>∃ (pp:M.Pos) (at3 sd3:Int) (A22_6_0:Option Addr) (c22_6_0:Nat) (g22_6_0:List Nat) (A22_6_1:Option Addr) (c22_6_1:Nat) (g22_6_1:List Nat) (G22_6:List Nat),l=F []/\os=U [some (boxO bs [.slice As_0 c1c cs_0,.int .i64 at3,.int .u64 sd3] 141),some (boxO b19 [.slice A22_6_0 pp.pits.length c22_6_0,.slice A22_6_1 pp.stores.length c22_6_1,.int .i64 pp.player] 28),some (rowO 2 1 (.slice A22_6_1 pp.stores.length c22_6_1) pp.stores.length (ints_ pp.stores) g22_6_1),some (rowO 2 1 (.slice A22_6_0 pp.pits.length c22_6_0) pp.pits.length (ints_ pp.pits) g22_6_0),nO,nO,some (anyO G22_6)]/\(pp.pits.length=(2 * rr.pits).toNat/\pp.stores.length=2)/\(s_at<=at3)/\(at3<=s_at + 270)/\(pp.pits.length<=c22_6_0)/\(c22_6_0<=9223372036854775807)/\(pp.stores.length<=c22_6_1)/\(c22_6_1<=9223372036854775807)) ?_ ?_
 ·refine zi (λh23 h23'=>?_) λh23 h23'=>?_
  ·refine Js.region<|Qm rfl<|zBB 1 sp_ rfl (λw hb _ hw=>zq141 c1c X20AT X20SD rr hb (ok_ hw) (ok_ hw)) ?_
   rintro _ _ G24 ⟨X24PX,X24AT,X24SD,A24r_0,c24r_0,g24r_0,A24r_1,c24r_1,g24r_1,rfl,rfl,bl24_0,bl24_1,bl24_2,bl24_3,hX24_0,hX24_1,hX24_2⟩
   refine znl ?_
   refine zw 4 rfl rfl rfl ?_
   refine JL.nil ?_
   refine zf [0,0,0,1,1,1,1,1] λGG25=>?_
   refine zn ?_
   refine zf [0,2,1,0,2,2] λGG26=>?_
   refine zn ?_
   exact zm ⟨(X24PX),(X24AT),(X24SD),_,_,_,_,_,_,_,rfl,rfl,by first|omega|exact⟨hl0,hl1⟩,by first|assumption|omega|rfl|(dsimp only;omega)|(simp;done),by first|assumption|omega|rfl|(dsimp only;omega)|(simp;done),by first|assumption|omega|rfl|(dsimp only;omega)|(simp;done),by first|assumption|omega|rfl|(dsimp only;omega)|(simp;done),by first|assumption|omega|rfl|(dsimp only;omega)|(simp;done),by first|assumption|omega|rfl|(dsimp only;omega)|(simp;done)⟩ (Up.refl _ _)
  refine Js.skip ?_
  exact zm ⟨((M.startP rr)),(X20AT),(X20SD),_,_,_,_,_,_,_,rfl,rfl,by first|omega|exact⟨hl0,hl1⟩,by first|assumption|omega|rfl|(dsimp only;omega)|(simp;done),by first|assumption|omega|rfl|(dsimp only;omega)|(simp;done),by first|assumption|omega|rfl|(dsimp only;omega)|(simp;done),by first|assumption|omega|rfl|(dsimp only;omega)|(simp;done),by first|assumption|omega|rfl|(dsimp only;omega)|(simp;done),by first|assumption|omega|rfl|(dsimp only;omega)|(simp;done)⟩ (Up.refl _ _)
 rintro _ _ u22 ⟨pp,at3,sd3,A22_6_0,c22_6_0,g22_6_0,A22_6_1,c22_6_1,g22_6_1,G22_6,rfl,rfl,hp9,hc0,hc1,f22_3,f22_4,f22_5,f22_6⟩ x22
 refine zn ?_
 refine zS<|zc rfl (λw hw=>zq14 rr pp (ok_ hw) (ok_ hw)) ?_
 intro A28 c28 bl28 bh28 A29 c29 bl29 bh29 A30 c30 bl30 bh30 A31 c31 bl31 bh31 A32 c32 bl32 bh32
 refine za zeh λb33=>zw 0 rfl rfl rfl ?_
 refine JL.nil ?_
 refine zf [0,0,0,0,0,0,0,4] λGG34=>?_
 refine zn ?_
 refine Js.seq<|zS<|Qm rfl<|Qm rfl<|Qp rfl rfl ?_
 refine zhl [6] ?_
 refine zBB 1 sp_ rfl (λw hb _ hw=>zq0 c1c at3 sd3 (most + 1) hb (ok_ hw)) ?_
 rintro _ _ G35 ⟨X35KX,X35AT,X35SD,rfl,rfl,hX35_0,hX35_1,hX35_2,hX35_3⟩
 refine znl ?_
 refine Qa rfl<|JL.nil ?_
 refine zf [0,1,1,1,1,1,1,1] λGG36=>?_
 refine zn ?_
 refine Js.block ?_
 refine zl [0,4,7] (λF U l os u m=>∃ (j at1 sd1:Int) (gk:M.Gam) (A37_7_9:Option Addr) (c37_7_9:Nat) (g37_7_9:List Nat) (A37_7_10:Option Addr) (c37_7_10:Nat) (g37_7_10:List Nat) (A37_7_12:Option Addr) (c37_7_12:Nat) (g37_7_12:List Nat) (A37_7_13:Option Addr) (c37_7_13:Nat) (g37_7_13:List Nat) (A37_7_14:Option Addr) (c37_7_14:Nat) (g37_7_14:List Nat) (G37_8:List Nat),l=F [(8,.int .i64 j)]/\os=U [some (boxO bs [.slice As_0 c1c cs_0,.int .i64 at1,.int .u64 sd1] 141),some (boxO b33 [.int .i64 gk.rules.pits,.int .i64 gk.rules.seeds,.bool gk.rules.stores,.bool gk.rules.skip,.bool gk.rules.relay,.bool gk.rules.feed,.bool gk.rules.again,.int .i64 gk.rules.capture,.int .i64 gk.rules.slam,.slice A37_7_9 gk.start.pits.length c37_7_9,.slice A37_7_10 gk.start.stores.length c37_7_10,.int .i64 gk.start.player,.slice A37_7_12 gk.moves.length c37_7_12,.slice A37_7_13 gk.now.pits.length c37_7_13,.slice A37_7_14 gk.now.stores.length c37_7_14,.int .i64 gk.now.player,.int .i64 gk.resigned] 53),some (rowO 2 1 (.slice A37_7_14 gk.now.stores.length c37_7_14) gk.now.stores.length (ints_ gk.now.stores) g37_7_14),some (rowO 2 1 (.slice A37_7_13 gk.now.pits.length c37_7_13) gk.now.pits.length (ints_ gk.now.pits) g37_7_13),some (rowO 2 1 (.slice A37_7_12 gk.moves.length c37_7_12) gk.moves.length (ints_ gk.moves) g37_7_12),some (rowO 2 1 (.slice A37_7_10 gk.start.stores.length c37_7_10) gk.start.stores.length (ints_ gk.start.stores) g37_7_10),some (rowO 2 1 (.slice A37_7_9 gk.start.pits.length c37_7_9) gk.start.pits.length (ints_ gk.start.pits) g37_7_9),nO,some (anyO G37_8)]/\(0<=j/\j<=21)/\(s_at<=at1)/\(at1 + 2 * j<=s_at + 400)/\(M.Small gk)/\(gk.moves.length<=120)/\(gk.now.stores.length=2)/\(1<=gk.now.pits.length)/\(gk.start.pits.length<=c37_7_9)/\(c37_7_9<=9223372036854775807)/\(gk.start.stores.length<=c37_7_10)/\(c37_7_10<=9223372036854775807)/\(gk.moves.length<=c37_7_12)/\(c37_7_12<=9223372036854775807)/\(gk.now.pits.length<=c37_7_13)/\(c37_7_13<=9223372036854775807)/\(gk.now.stores.length<=c37_7_14)/\(c37_7_14<=9223372036854775807)/\m=j.toNat) ⟨X35KX,X35AT,X35SD,(M.Gam.mk rr pp [] pp (-1)),_,_,_,_,_,_,_,_,_,_,_,_,_,_,_,_,rfl,rfl,zt,zt,zt,by exact⟨by dsimp only;omega,by dsimp only;omega,by simp,by dsimp only;omega,by dsimp only;omega⟩,by simp,by dsimp only;omega,by dsimp only;omega,zu,zu,zu,zu,zu,zu,zu,zu,zu,zu,rfl⟩ ?_
 rintro _ _ u37 _ ⟨j,at1,sd1,gk,A37_7_9,c37_7_9,g37_7_9,A37_7_10,c37_7_10,g37_7_10,A37_7_12,c37_7_12,g37_7_12,A37_7_13,c37_7_13,g37_7_13,A37_7_14,c37_7_14,g37_7_14,G37_8,rfl,rfl,hj,ha0,ha1,hs,hm,hst,hnp,f37_7,f37_8,f37_9,f37_10,f37_11,f37_12,f37_13,f37_14,f37_15,f37_16,rfl⟩ x37
 refine zn ?_
 have s1:=hs.sp
 have s2:=hs.ss
 have s3:=hs.m
 have s4:=hs.np
 have s5:=hs.ns
 refine Js.seq<|zS<|Qm rfl<|Qg rfl rfl<|JL.nil ?_
 refine zi (λh38 h38'=>?_) λh38 h38'=>?_
 ·refine Js.skip<|Js.seq<|Js.block<|zS<|Qm rfl<|zBB 1 sp_ rfl (λw hb _ hw=>zq47 c1c at1 sd1 gk hb (ok_ hw) (ok_ hw)) ?_
  rintro _ _ G39 ⟨X39KX,X39AT,X39SD,rfl,rfl,hX39_0,hX39_1⟩
  refine znl ?_
  refine Qa rfl<|JL.nil ?_
  refine zf [0,1,1,1,1,1,1,1] λGG40=>?_
  refine zn ?_
  refine Js.seq<|zS<|Qm rfl<|Ql rfl rfl<|JL.nil ?_
  refine zi (λh41 h41'=>?_) λh41 h41'=>?_
  ·refine zx ?_
   refine Js.seq<|zS<|Qm rfl<|zBB 1 sp_ rfl (λw hb _ hw=>zq1 c1c X39AT X39SD 10 hb (ok_ hw)) ?_
   rintro _ _ G42 ⟨X42BX,X42AT,X42SD,rfl,rfl,hX42_0,hX42_1⟩
   refine znl ?_
   refine JL.nil ?_
   refine zf [0,1,1,1,1,1,1,1] λGG43=>?_
   refine zn ?_
   refine zi (λh44 h44'=>?_) λh44 h44'=>?_
   ·refine Js.region<|Qm rfl<|zBB 1 sp_ rfl (λw hb _ hw=>zq0 c1c X42AT X42SD 2 hb (ok_ hw)) ?_
    rintro _ _ G45 ⟨X45KX,X45AT,X45SD,rfl,rfl,hX45_0,hX45_1,hX45_2,hX45_3⟩
    refine znl ?_
    refine Qf fh rfl<|zw 2 rfl rfl rfl ?_
    refine JL.nil ?_
    refine zf [0,1,1,1,1,1,1,1] λGG46=>?_
    refine zn ?_
    refine zS<|Q9 1 rfl rfl ?_
    refine zw 7 rfl rfl rfl ?_
    refine JL.nil ?_
    refine zf [0,1,1,1,1,1,1] λGG47=>?_
    refine zn ?_
    refine zrb [0,4,3,2,1,0] hb ((x7.trans x22).trans x37) ?_
    refine⟨((M.Gam.mk gk.rules gk.start gk.moves gk.now X45KX)),(X45AT),(X45SD),A37_7_9,c37_7_9,g37_7_9,A37_7_10,c37_7_10,g37_7_10,A37_7_12,c37_7_12,g37_7_12,A37_7_13,c37_7_13,g37_7_13,A37_7_14,c37_7_14,g37_7_14,rfl, ?_, ?_, ?_, ?_, ?_, ?_, ?_, ?_, ?_, ?_, ?_,by first|trivial|exact⟨hs,by omega,hst,hnp⟩|exact⟨⟨hs.sp,hs.ss,hs.m,hs.np,hs.ns⟩,by dsimp only;omega,hst,hnp⟩|omega,by first|trivial|exact⟨hs,by omega,hst,hnp⟩|exact⟨⟨hs.sp,hs.ss,hs.m,hs.np,hs.ns⟩,by dsimp only;omega,hst,hnp⟩|omega,by first|trivial|exact⟨hs,by omega,hst,hnp⟩|exact⟨⟨hs.sp,hs.ss,hs.m,hs.np,hs.ns⟩,by dsimp only;omega,hst,hnp⟩|omega⟩
    · rfl
    all_goals (try dsimp only)
    all_goals (first|(omega)|omega|(simp only[*];omega)|(simp;done))
   refine Js.skip<|zS<|Q9 1 rfl rfl ?_
   refine zw 7 rfl rfl rfl ?_
   refine JL.nil ?_
   refine zf [0,1,1,1,1,1,1] λGG48=>?_
   refine zn ?_
   refine zrb [0,4,3,2,1,0] hb ((x7.trans x22).trans x37) ?_
   refine⟨(gk),(X42AT),(X42SD),A37_7_9,c37_7_9,g37_7_9,A37_7_10,c37_7_10,g37_7_10,A37_7_12,c37_7_12,g37_7_12,A37_7_13,c37_7_13,g37_7_13,A37_7_14,c37_7_14,g37_7_14,rfl, ?_, ?_, ?_, ?_, ?_, ?_, ?_, ?_, ?_, ?_, ?_,by first|trivial|exact⟨hs,by omega,hst,hnp⟩|exact⟨⟨hs.sp,hs.ss,hs.m,hs.np,hs.ns⟩,by dsimp only;omega,hst,hnp⟩|omega,by first|trivial|exact⟨hs,by omega,hst,hnp⟩|exact⟨⟨hs.sp,hs.ss,hs.m,hs.np,hs.ns⟩,by dsimp only;omega,hst,hnp⟩|omega,by first|trivial|exact⟨hs,by omega,hst,hnp⟩|exact⟨⟨hs.sp,hs.ss,hs.m,hs.np,hs.ns⟩,by dsimp only;omega,hst,hnp⟩|omega⟩
   · rfl
   all_goals (try dsimp only)
   all_goals (first|(omega)|omega|(simp only[*];omega)|(simp;done))
  refine Js.skip<|zS<|Qm rfl<|zc rfl (λw hw=>zq21 gk X39KX (ok_ hw)) ?_
  intro A51 c51 bl51 bh51 A52 c52 bl52 bh52 A53 c53 bl53 bh53 A54 c54 bl54 bh54 A55 c55 bl55 bh55
  refine Qm rfl<|Qx rfl rfl<|Qx rfl rfl<|za zeh λb56=>zw 0 rfl rfl rfl ?_
  refine Qa rfl<|zN<|Qm rfl<|Qe rfl rfl<|JL.nil ?_
  refine zi (λh57 h57'=>?_) λh57 h57'=>?_
  ·have hz:(M.play gk X39KX).2=0:=by simpa using h57
   refine Js.region<|Q9 0 rfl rfl ?_
   refine zw 7 rfl rfl rfl ?_
   refine JL.nil ?_
   refine zf [1,1,1,1,1,1,1,6] λGG58=>?_
   refine zn ?_
   refine Js.blockEnd<|Js.region<|Qm rfl<|Qs rfl rfl<|Qa rfl<|JL.nil ?_
   refine zf [5,5,0,0,0,0,0,0] λGG59=>?_
   refine zn ?_
   exact zag ⟨j - 1,X39AT,X39SD,((M.play gk X39KX).1),_,_,_,_,_,_,_,_,_,_,_,_,_,_,_,_,rfl,rfl,zt,zt,zt,by first|exact hs|exact hs.play hz,by first|exact hm|exact M.b3f hm hz,by first|exact hst|exact M.a6c hst hz,by first|exact hnp|exact M.b0s hnp hz,zu,zu,zu,zu,zu,zu,zu,zu,zu,zu,rfl⟩ x37
  refine Js.skip<|Js.blockEnd<|Js.region<|Qm rfl<|Qs rfl rfl<|Qa rfl<|JL.nil ?_
  refine zf [6,6,6,6,6,6,6,6] λGG60=>?_
  refine zn ?_
  exact zag ⟨j - 1,X39AT,X39SD,gk,_,_,_,_,_,_,_,_,_,_,_,_,_,_,_,_,rfl,rfl,zt,zt,zt,by first|exact hs|exact hs.play hz,by first|exact hm|exact M.b3f hm hz,by first|exact hst|exact M.a6c hst hz,by first|exact hnp|exact M.b0s hnp hz,zu,zu,zu,zu,zu,zu,zu,zu,zu,zu,rfl⟩ x37
 refine zx ?_
 refine Js.seq<|zS<|Qm rfl<|zBB 1 sp_ rfl (λw hb _ hw=>zq1 c1c at1 sd1 10 hb (ok_ hw)) ?_
 rintro _ _ G61 ⟨X61BX,X61AT,X61SD,rfl,rfl,hX61_0,hX61_1⟩
 refine znl ?_
 refine JL.nil ?_
 refine zf [0,1,1,1,1,1,1,1] λGG62=>?_
 refine zn ?_
 refine zi (λh63 h63'=>?_) λh63 h63'=>?_
 ·refine Js.region<|Qm rfl<|zBB 1 sp_ rfl (λw hb _ hw=>zq0 c1c X61AT X61SD 2 hb (ok_ hw)) ?_
  rintro _ _ G64 ⟨X64KX,X64AT,X64SD,rfl,rfl,hX64_0,hX64_1,hX64_2,hX64_3⟩
  refine znl ?_
  refine Qf fh rfl<|zw 2 rfl rfl rfl ?_
  refine JL.nil ?_
  refine zf [0,1,1,1,1,1,1,1] λGG65=>?_
  refine zn ?_
  refine zS<|Q9 1 rfl rfl ?_
  refine zw 7 rfl rfl rfl ?_
  refine JL.nil ?_
  refine zf [0,1,1,1,1,1,1] λGG66=>?_
  refine zn ?_
  refine zrb [0,4,3,2,1,0] hb ((x7.trans x22).trans x37) ?_
  refine⟨((M.Gam.mk gk.rules gk.start gk.moves gk.now X64KX)),(X64AT),(X64SD),A37_7_9,c37_7_9,g37_7_9,A37_7_10,c37_7_10,g37_7_10,A37_7_12,c37_7_12,g37_7_12,A37_7_13,c37_7_13,g37_7_13,A37_7_14,c37_7_14,g37_7_14,rfl, ?_, ?_, ?_, ?_, ?_, ?_, ?_, ?_, ?_, ?_, ?_,by first|trivial|exact⟨hs,by omega,hst,hnp⟩|exact⟨⟨hs.sp,hs.ss,hs.m,hs.np,hs.ns⟩,by dsimp only;omega,hst,hnp⟩|omega,by first|trivial|exact⟨hs,by omega,hst,hnp⟩|exact⟨⟨hs.sp,hs.ss,hs.m,hs.np,hs.ns⟩,by dsimp only;omega,hst,hnp⟩|omega,by first|trivial|exact⟨hs,by omega,hst,hnp⟩|exact⟨⟨hs.sp,hs.ss,hs.m,hs.np,hs.ns⟩,by dsimp only;omega,hst,hnp⟩|omega⟩
  · rfl
  all_goals (try dsimp only)
  all_goals (first|(omega)|omega|(simp only[*];omega)|(simp;done))
 refine Js.skip<|zS<|Q9 1 rfl rfl ?_
 refine zw 7 rfl rfl rfl ?_
 refine JL.nil ?_
 refine zf [0,1,1,1,1,1,1] λGG67=>?_
 refine zn ?_
 refine zrb [0,4,3,2,1,0] hb ((x7.trans x22).trans x37) ?_
 refine⟨(gk),(X61AT),(X61SD),A37_7_9,c37_7_9,g37_7_9,A37_7_10,c37_7_10,g37_7_10,A37_7_12,c37_7_12,g37_7_12,A37_7_13,c37_7_13,g37_7_13,A37_7_14,c37_7_14,g37_7_14,rfl, ?_, ?_, ?_, ?_, ?_, ?_, ?_, ?_, ?_, ?_, ?_,by first|trivial|exact⟨hs,by omega,hst,hnp⟩|exact⟨⟨hs.sp,hs.ss,hs.m,hs.np,hs.ns⟩,by dsimp only;omega,hst,hnp⟩|omega,by first|trivial|exact⟨hs,by omega,hst,hnp⟩|exact⟨⟨hs.sp,hs.ss,hs.m,hs.np,hs.ns⟩,by dsimp only;omega,hst,hnp⟩|omega,by first|trivial|exact⟨hs,by omega,hst,hnp⟩|exact⟨⟨hs.sp,hs.ss,hs.m,hs.np,hs.ns⟩,by dsimp only;omega,hst,hnp⟩|omega⟩
 · rfl
 all_goals (try dsimp only)
 all_goals (first|(omega)|omega|(simp only[*];omega)|(simp;done))
theorem zq143(many:Int){w:World}(r0:0<=many:=by exact om_)(r1:many<=120:=by exact om_):Ret Tryz.prog 122 [.int .i64 many] w (Ty.ex (fun (GX:M.Gam)=>(M.Small GX/\GX.moves.length<=121/\GX.now.stores.length=2/\1<=GX.now.pits.length)) (λGX=>Ty.agg (cGame GX))):=by
 have hq0:([1,0,1,0]:List Int).length=4:=rfl
 refine enter @Tryz.func122 @Tryz.ntmps122 rfl rfl ?_
 refine zent ?_
 refine zS<|za zeh λb1=>zN<|Qb ?_
 refine za zeh λb2=>zw 0 rfl rfl rfl ?_
 refine zN<|zbs λb3=>?_
 refine zbs λb5=>?_
 refine Qb ?_
 refine za zeh λb7=>zw 0 rfl rfl rfl ?_
 refine zN<|zc rfl (λw hw=>zq14 (M.Rul.mk 2 1 false false false false false 0 0) (M.Pos.mk [1,0,1,0] [0,0] 0) (ok_ hw) ⟨_,_,[.slice (some ⟨b3,0,none⟩) 4 4,.slice (some ⟨b5,0,none⟩) 2 2,.int .i64 0],rfl,⟨(a2e (xs:=[1,0,1,0]) (hw.pr (i:=2) rfl)),(a2e (xs:=[0,0]) (hw.pr (i:=1) rfl)),rfl,trivial⟩,Mem.boxR (i:=0) rfl 0 3 _ hw⟩ (r0:=(by simp)) (r1:=(by simp))) ?_
 intro A9 c9 bl9 bh9 A10 c10 bl10 bh10 A11 c11 bl11 bh11 A12 c12 bl12 bh12 A13 c13 bl13 bh13
 refine za zeh λb14=>zw 0 rfl rfl rfl ?_
 refine zJ<|Js.block ?_
 refine zl [0,2,3,5] (λF U l os u m=>∃ (gk:M.Gam) (A15_5_9:Option Addr) (c15_5_9:Nat) (g15_5_9:List Nat) (A15_5_10:Option Addr) (c15_5_10:Nat) (g15_5_10:List Nat) (A15_5_12:Option Addr) (c15_5_12:Nat) (g15_5_12:List Nat) (A15_5_13:Option Addr) (c15_5_13:Nat) (g15_5_13:List Nat) (A15_5_14:Option Addr) (c15_5_14:Nat) (g15_5_14:List Nat),l=F []/\os=U [some (boxO b14 [.int .i64 gk.rules.pits,.int .i64 gk.rules.seeds,.bool gk.rules.stores,.bool gk.rules.skip,.bool gk.rules.relay,.bool gk.rules.feed,.bool gk.rules.again,.int .i64 gk.rules.capture,.int .i64 gk.rules.slam,.slice A15_5_9 gk.start.pits.length c15_5_9,.slice A15_5_10 gk.start.stores.length c15_5_10,.int .i64 gk.start.player,.slice A15_5_12 gk.moves.length c15_5_12,.slice A15_5_13 gk.now.pits.length c15_5_13,.slice A15_5_14 gk.now.stores.length c15_5_14,.int .i64 gk.now.player,.int .i64 gk.resigned] 53),some (rowO 2 1 (.slice A15_5_14 gk.now.stores.length c15_5_14) gk.now.stores.length (ints_ gk.now.stores) g15_5_14),some (rowO 2 1 (.slice A15_5_13 gk.now.pits.length c15_5_13) gk.now.pits.length (ints_ gk.now.pits) g15_5_13),some (rowO 2 1 (.slice A15_5_12 gk.moves.length c15_5_12) gk.moves.length (ints_ gk.moves) g15_5_12),some (rowO 2 1 (.slice A15_5_10 gk.start.stores.length c15_5_10) gk.start.stores.length (ints_ gk.start.stores) g15_5_10),some (rowO 2 1 (.slice A15_5_9 gk.start.pits.length c15_5_9) gk.start.pits.length (ints_ gk.start.pits) g15_5_9)]/\(M.Small gk)/\(gk.moves.length<=120)/\(gk.now.stores.length=2)/\(1<=gk.now.pits.length)/\(gk.start.pits.length<=c15_5_9)/\(c15_5_9<=9223372036854775807)/\(gk.start.stores.length<=c15_5_10)/\(c15_5_10<=9223372036854775807)/\(gk.moves.length<=c15_5_12)/\(c15_5_12<=9223372036854775807)/\(gk.now.pits.length<=c15_5_13)/\(c15_5_13<=9223372036854775807)/\(gk.now.stores.length<=c15_5_14)/\(c15_5_14<=9223372036854775807)/\m=many.toNat - gk.moves.length) ⟨(M.Gam.mk (M.Rul.mk 2 1 false false false false false 0 0) (M.Pos.mk [1,0,1,0] [0,0] 0) [] (M.Pos.mk [1,0,1,0] [0,0] 0) (-1)),_,_,_,_,_,_,_,_,_,_,_,_,_,_,_,rfl,rfl,by exact⟨by simp,by simp,by simp,by simp,by simp⟩,by simp,by rfl,by simp,zu,zu,zu,zu,zu,zu,zu,zu,zu,zu,rfl⟩ ?_
 rintro _ _ u15 _ ⟨gk,A15_5_9,c15_5_9,g15_5_9,A15_5_10,c15_5_10,g15_5_10,A15_5_12,c15_5_12,g15_5_12,A15_5_13,c15_5_13,g15_5_13,A15_5_14,c15_5_14,g15_5_14,rfl,rfl,hs,hm,hst,hnp,f15_4,f15_5,f15_6,f15_7,f15_8,f15_9,f15_10,f15_11,f15_12,f15_13,rfl⟩ x15
 refine zn ?_
 have s1:=hs.sp
 have s2:=hs.ss
 have s3:=hs.m
 have s4:=hs.np
 have s5:=hs.ns
 have hll:=M.b5b (M.Rul.mk 2 1 false false false false false 0 0) gk.now
 refine Js.seq<|zS<|Qf fh rfl<|Q0 0 rfl rfl rfl<|Qz rfl<|Qm rfl<|Ql rfl rfl<|JL.nil ?_
 refine zi (λh16 h16'=>?_) λh16 h16'=>?_
 ·refine Js.skip<|Js.block<|zS<|Q9 9 rfl rfl ?_
  refine Qf fh rfl<|Q9 0 rfl rfl ?_
  refine zp rfl (λw hw=>zq81 (M.Rul.mk 2 1 false false false false false 0 0) gk.now (ok_ hw) (ok_ hw)) ?_
  intro u17 x17 A18 c18 h18 bl18 bh18 X19 hX19
  refine Qm rfl<|Qx rfl rfl<|Qx rfl rfl<|Qa rfl<|Qa rfl<|zJ<|zS<|Qm rfl<|Qz rfl<|Qe rfl rfl<|JL.nil ?_
  refine zi (λh20 h20'=>?_) λh20 h20'=>?_
  ·refine zS<|Q9 0 rfl rfl ?_
   refine zw 10 rfl rfl rfl ?_
   refine JL.nil ?_
   exact zro (x15.trans x17) (g:=by exact(gv_ex gk (by first|trivial|exact⟨hs,by omega,hst,hnp⟩|exact⟨⟨hs.sp,hs.ss,hs.m,hs.np,hs.ns⟩,by dsimp only;omega,hst,hnp⟩|omega) gv_))
  obtain⟨b21,o21,he21,hc21⟩:=a0l h18 (i:=((((M.legal (M.Rul.mk 2 1 false false false false false 0 0) gk.now).length):Int) - 1).toNat) (by omega)
  refine Js.skip<|zS<|Qm rfl<|Qm rfl<|Qz rfl<|Qs rfl rfl<|Qq (a0a el_26 rfl rfl (by omega) (by omega) he21)<|QC hc21 rfl<|zc rfl (λw hw=>zq21 gk (M.nth (M.legal (M.Rul.mk 2 1 false false false false false 0 0) gk.now) (((((M.legal (M.Rul.mk 2 1 false false false false false 0 0) gk.now).length):Int) - 1).toNat)) (ok_ hw)) ?_
  intro A24 c24 bl24 bh24 A25 c25 bl25 bh25 A26 c26 bl26 bh26 A27 c27 bl27 bh27 A28 c28 bl28 bh28
  refine Qm rfl<|Qx rfl rfl<|Qx rfl rfl<|za zeh λb29=>zw 0 rfl rfl rfl ?_
  refine Qa rfl<|zJ<|zS<|Qm rfl<|Qd rfl rfl<|JL.nil ?_
  refine zi (λh30 h30'=>?_) λh30 h30'=>?_
  ·refine zS<|Q9 6 rfl rfl ?_
   refine zw 16 rfl rfl rfl ?_
   refine JL.nil ?_
   exact zro (x15.trans x17) (g:=by exact(gv_ex gk (by first|trivial|exact⟨hs,by omega,hst,hnp⟩|exact⟨⟨hs.sp,hs.ss,hs.m,hs.np,hs.ns⟩,by dsimp only;omega,hst,hnp⟩|omega) gv_))
  have hz:(M.play gk (M.nth (M.legal (M.Rul.mk 2 1 false false false false false 0 0) gk.now) (((((M.legal (M.Rul.mk 2 1 false false false false false 0 0) gk.now).length):Int) - 1).toNat))).2=0:=by simpa using h30
  refine Js.skip<|Js.region<|Q9 0 rfl rfl ?_
  refine zw 6 rfl rfl rfl ?_
  refine JL.nil<|Js.blockEnd ?_
  refine zd [6,1,1,1,1,1,6,6,6,6,6] rfl λu31 x31=>?_
  exact zag ⟨((M.play gk (M.nth (M.legal (M.Rul.mk 2 1 false false false false false 0 0) gk.now) (((((M.legal (M.Rul.mk 2 1 false false false false false 0 0) gk.now).length):Int) - 1).toNat))).1),_,_,_,_,_,_,_,_,_,_,_,_,_,_,_,rfl,rfl,by first|exact hs|exact hs.play hz,by first|exact hm|exact M.b3f hm hz,by first|exact hst|exact M.a6c hst hz,by first|exact hnp|exact M.b0s hnp hz,zu,zu,zu,zu,zu,zu,zu,zu,zu,zu,rfl⟩ ((x15.trans x17).trans x31) (by have:=M.play_len hz;omega)
 refine zx ?_
 refine zS<|Q9 0 rfl rfl ?_
 refine zw 10 rfl rfl rfl ?_
 refine JL.nil ?_
 exact zro x15 (g:=by exact(gv_ex gk (by first|trivial|exact⟨hs,by omega,hst,hnp⟩|exact⟨⟨hs.sp,hs.ss,hs.m,hs.np,hs.ns⟩,by dsimp only;omega,hst,hnp⟩|omega) gv_))
end Go.Proofs.YtjgohnaobbphpaaGreatDoor

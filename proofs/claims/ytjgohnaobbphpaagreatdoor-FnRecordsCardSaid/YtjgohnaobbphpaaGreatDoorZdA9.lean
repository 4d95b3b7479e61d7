/- Walks: K17. -/
import Derived.Test.YtjgohnaobbphpaaGreatDoorZdA4
import Derived.Test.YtjgohnaobbphpaaGreatDoorZdA8
import Derived.Test.YtjgohnaobbphpaaGreatDoorZdA7
import Derived.Test.YtjgohnaobbphpaaGreatDoorZdA2
import Derived.Test.YtjgohnaobbphpaaGreatDoorZdA3
import Derived.Test.YtjgohnaobbphpaaGreatDoorZdA6
set_option linter.unusedSimpArgs false
set_option linter.unusedVariables false
set_option maxRecDepth 100000
attribute [local irreducible] Go.Proofs.YtjgohnaobbphpaaGreatDoor.gv
set_option maxHeartbeats 16000000
namespace Go.Proofs.YtjgohnaobbphpaaGreatDoor
open Go.RowKit
theorem zq42(ns:List Int){v_ns:Value}{w:World}(h_ns:(Ty.ints 2 ns).ok w v_ns)(r0:ns.length<=4194304:=by exact om_)(r1:M.Rng ns:=by exact om_):RetV Tryz.prog 176 [v_ns] w (.string (sB (M.joinT ns))):=by
 revert v_ns;apply opn
 intro A1 c1 h1 bl1 bh1
 have h_ns:=h1
 refine enter @Tryz.func176 @Tryz.ntmps176 rfl rfl ?_
 refine zent ?_
 refine zS<|Qa rfl<|zN<|Qa rfl<|zJ<|zS<|Qa rfl<|JL.nil<|Js.block ?_
 refine zl [0] (λF U l os u m=>∃ (k:Nat) (out:List UInt8),l=F [(3,.string (sB out)),(4,.int .i64 (k:Int))]/\os=U []/\(out=M.joinN ns k)/\(k<=ns.length)/\m=ns.length - k) ⟨0,([]:List UInt8),rfl,rfl,by rfl,zt,rfl⟩ ?_
 rintro _ _ u2 _ ⟨k,out,rfl,rfl,hJ,hk,rfl⟩ x2
 refine zn ?_
 have lb9:LenB out 92274688:=⟨M.b4k hJ (by omega)⟩
 obtain⟨n1,n2⟩:=M.Rng.nth r1 k
 refine Js.seq<|zS<|Qm rfl<|Qm rfl<|Qz rfl<|Ql rfl rfl<|JL.nil ?_
 refine zi (λh3 h3'=>?_) λh3 h3'=>?_
 ·refine Js.skip<|Js.seq<|Js.block<|Js.seq<|zS<|Qm rfl<|Qg rfl rfl<|JL.nil ?_
  refine zi (λh4 h4'=>?_) λh4 h4'=>?_
  ·have hJ2:=M.joinN_p hJ (by have:=h4';omega)
   obtain⟨b5,o5,he5,hc5⟩:=a0l (Ty.mono _ h1 x2.vis) (i:=k) (by omega)
   refine Js.region<|Qm rfl<|Qq (q_cat rfl rfl)<|Qa rfl<|zG<|Qm rfl<|Qm rfl<|Qm rfl<|Qq (a0a el_26 rfl rfl (by omega) (by omega) he5)<|QC hc5 rfl<|zv rfl (λw hw=>zq5 (M.nth ns k))<|Qq (q_cat rfl rfl)<|Qa rfl<|JL.nil ?_
   refine Js.blockEnd<|Js.region<|Qm rfl<|Qp rfl rfl<|Qa rfl<|JL.nil ?_
   exact zag ⟨k + 1,(out++([44]:List UInt8))++(M.dec (M.nth ns k)),rfl,rfl,by exact hJ2,zt,rfl⟩ x2
  have hJ2:=M.joinN_z hJ (by have:=h4';omega)
  obtain⟨b6,o6,he6,hc6⟩:=a0l (Ty.mono _ h1 x2.vis) (i:=k) (by omega)
  refine Js.skip<|Js.region<|Qm rfl<|Qm rfl<|Qm rfl<|Qq (a0a el_26 rfl rfl (by omega) (by omega) he6)<|QC hc6 rfl<|zv rfl (λw hw=>zq5 (M.nth ns k))<|Qq (q_cat rfl rfl)<|Qa rfl<|JL.nil<|Js.blockEnd<|Js.region<|Qm rfl ?_
  refine Qp rfl rfl<|Qa rfl<|JL.nil ?_
  exact zag ⟨k + 1,out++(M.dec (M.nth ns k)),rfl,rfl,by exact hJ2,zt,rfl⟩ x2
 have hE:=M.joinN_e hJ (by have:=h3';omega) hk
 refine zx ?_
 refine zS<|Qm rfl<|Qa rfl<|JL.nil ?_
 refine zR x2 ?_
 rw[hE];rfl
theorem zq152(p:M.Pos){v_p:Value}{w:World}(h_p:(Ty.ref (cPosition p)).ok w v_p)(r0:p.pits.length<=16:=by exact om_)(r1:p.stores.length<=2:=by exact om_)(r2:M.allOk p.pits=true:=by exact om_)(r3:M.allOk p.stores=true:=by exact om_)(r4:p.player=0\/p.player=1:=by exact om_):RetV Tryz.prog 134 [v_p] w (.string (sB (M.posText p))):=by
 have lj1:LenB (M.joinT (List.take (p.pits.length / 2 - 0) (List.drop 0 p.pits))) 352:=⟨by have:=M.a2k (List.take (p.pits.length / 2 - 0) (List.drop 0 p.pits));rw[List.length_take,List.length_drop] at this;omega⟩
 have lj2:LenB (M.joinT (List.take (p.pits.length - p.pits.length / 2) (List.drop (p.pits.length / 2) p.pits))) 352:=⟨by have:=M.a2k (List.take (p.pits.length - p.pits.length / 2) (List.drop (p.pits.length / 2) p.pits));rw[List.length_take,List.length_drop] at this;omega⟩
 have lj3:LenB (M.joinT p.stores) 352:=⟨by have:=M.a2k p.stores;omega⟩
 have ra:=M.Rng.ok r3
 have rb:=((M.Rng.ok r2).drop 0).take (p.pits.length / 2 - 0)
 have rc:=((M.Rng.ok r2).drop (p.pits.length / 2)).take (p.pits.length - p.pits.length / 2)
 revert v_p;apply opn
 intro b3 o3 A1 c1 h1 bl1 bh1 A2 c2 h2 bl2 bh2 hr3
 refine enter @Tryz.func134 @Tryz.ntmps134 rfl rfl ?_
 refine zent ?_
 refine zS<|Qa rfl<|zN<|Qm rfl<|Qc rfl<|Qf fh rfl<|QC (hr3 0 _ rfl) rfl<|Qz rfl<|Qq (p_quo rfl rfl (by omega) (b3g (by omega) (by omega) (by omega)))<|Qa rfl<|zJ ?_
 refine zdr [] ?_
 refine jM 0 rfl rfl ?_
 refine jN 1 rfl rfl ?_
 refine jF 2 a0v rfl rfl ?_
 refine jW 3 ty_2 rfl rfl (λhv=>(hr3.vis hv) 2 _ rfl) ?_
 refine jM 6 rfl rfl ?_
 refine jN 7 rfl rfl ?_
 refine jF 8 a1a rfl rfl ?_
 refine jW 9 ty_26 rfl rfl (λhv=>(hr3.vis hv) 0 _ rfl) ?_
 refine jM 10 rfl rfl ?_
 have hs4:=a7l (a:=0) (b:=p.pits.length / 2) (m:=c1) h1 (by omega) (by omega) (by omega) (by omega)
 have hl4:((p.pits.drop 0).take ((p.pits.length / 2) - 0)).length=(p.pits.length / 2) - 0:=by rw[List.length_take,List.length_drop];omega
 refine JH.p 11 rfl (a9p (lo':=0) (hi':=p.pits.length / 2) (mx':=c1) el_26 rfl rfl ⟨_,rfl,by omega⟩ rfl) ?_
 refine jM 15 rfl rfl ?_
 refine jN 16 rfl rfl ?_
 refine jF 17 a1a rfl rfl ?_
 refine jW 18 ty_26 rfl rfl (λhv=>(hr3.vis hv) 0 _ rfl) ?_
 refine jM 19 rfl rfl ?_
 have hs5:=a7l (a:=p.pits.length / 2) (b:=p.pits.length) (m:=c1) h1 (by omega) (by omega) (by omega) (by omega)
 have hl5:((p.pits.drop (p.pits.length / 2)).take (p.pits.length - (p.pits.length / 2))).length=p.pits.length - (p.pits.length / 2):=by rw[List.length_take,List.length_drop];omega
 refine JH.p 20 rfl (a9p (lo':=p.pits.length / 2) (hi':=p.pits.length) (mx':=c1) el_26 rfl rfl ⟨rfl,rfl⟩ ⟨_,rfl,by omega⟩) ?_
 refine jM 24 rfl rfl ?_
 refine jN 25 rfl rfl ?_
 refine jF 26 a0z rfl rfl ?_
 refine jW 27 ty_26 rfl rfl (λhv=>(hr3.vis hv) 1 _ rfl) ?_
 refine y1 4 ?_
 refine yv rfl rfl (λw hw=>zq5 p.player) ?_
 refine JH.p 5 rfl (q_cat rfl rfl) ?_
 refine y1 12 ?_
 refine yv rfl rfl (λw hw=>zq42 ((p.pits.drop 0).take ((p.pits.length / 2) - 0)) (ok_ hw) (r0:=(by first|omega|(simp only[List.length_take,List.length_drop];omega))) (r1:=(by first|exact ra|exact rb|exact rc))) ?_
 refine JH.p 13 rfl (q_cat rfl rfl) ?_
 refine JH.p 14 rfl (q_cat rfl rfl) ?_
 refine y1 21 ?_
 refine yv rfl rfl (λw hw=>zq42 ((p.pits.drop (p.pits.length / 2)).take (p.pits.length - (p.pits.length / 2))) (ok_ hw) (r0:=(by first|omega|(simp only[List.length_take,List.length_drop];omega))) (r1:=(by first|exact ra|exact rb|exact rc))) ?_
 refine JH.p 22 rfl (q_cat rfl rfl) ?_
 refine JH.p 23 rfl (q_cat rfl rfl) ?_
 refine y1 28 ?_
 refine yv rfl rfl (λw hw=>zq42 p.stores (ok_ hw) (r0:=(by first|omega|(simp only[List.length_take,List.length_drop];omega))) (r1:=(by first|exact ra|exact rb|exact rc))) ?_
 refine JH.p 29 rfl (q_cat rfl rfl) ?_
 refine jA 30 rfl rfl ?_
 refine yd ?_
 refine zR (Up.refl _ _) ?_
 simp[outV,M.posText,List.take_of_length_le]
theorem zq153(c1c:Nat)(s_at s_seed:Int){As_0:Option Addr}{cs_0:Nat}(list:List (List UInt8)){v_list:Value}{bs:Nat}{w:World}(hb:Bw w [boxO bs [.slice As_0 c1c cs_0,.int .i64 s_at,.int .u64 s_seed] 141])(hps_0:(Ty.bytes 5 c1c).ok (offW w (([boxO bs [.slice As_0 c1c cs_0,.int .i64 s_at,.int .u64 s_seed] 141]:List Own).flatMap (·.fp))) (.slice As_0 c1c cs_0))(h_list:(Ty.strs 9 list).ok (offW w (([boxO bs [.slice As_0 c1c cs_0,.int .i64 s_at,.int .u64 s_seed] 141]:List Own).flatMap (·.fp))) v_list)(r0:0<=s_at:=by exact om_)(r1:s_at<=999999998:=by exact om_)(r2:c1c<=1048576:=by exact om_)(r3:1<=list.length:=by exact om_)(r4:list.length<=1000:=by exact om_)(r5:∀ x∈list,x.length<=8:=by exact om_):RetB Tryz.prog 111 [.pointer (some ⟨bs,0,none⟩),v_list] w [boxO bs [.slice As_0 c1c cs_0,.int .i64 s_at,.int .u64 s_seed] 141] (λv bs'=>∃ (TX:List UInt8) (AT SD:Int),v=.string (sB TX)/\bs'=[boxO bs [.slice As_0 c1c cs_0,.int .i64 AT,.int .u64 SD] 141]/\(LenB TX 8)/\(s_at<=AT)/\(AT<=s_at + 2)):=by
 revert v_list;apply opn
 intro A1 c1 h1 bl1 bh1
 have h_list:=h1
 refine enterB hb @Tryz.func111 @Tryz.ntmps111 rfl rfl ?_
 refine zent ?_
 refine Js.trashE ?_
 refine zn ?_
 refine zS<|Qa rfl<|zN<|Qm rfl<|Qm rfl<|Qm rfl<|Qz rfl<|zBB 1 sp_ rfl (λw hb _ hw=>zq0 c1c s_at s_seed (list.length:Int) hb (ok_ hw)) ?_
 rintro _ _ G2 ⟨X2KX,X2AT,X2SD,rfl,rfl,hX2_0,hX2_1,hX2_2,hX2_3⟩
 refine znl ?_
 obtain⟨y3,hy3⟩:∃ x,list[X2KX.toNat]?=some x:=⟨_,List.getElem?_eq_getElem (by omega)⟩
 obtain⟨b3,o3,he3,hc3⟩:=a0o h1 hy3
 refine Qq (a0a el_31 rfl rfl (by omega) (by omega) he3)<|QC hc3 rfl<|Qa rfl<|JL.nil ?_
 refine zrb [0] hb (Up.refl _ _) ?_
 refine⟨(y3),(X2AT),(X2SD),rfl, ?_,by first|trivial|omega|exact⟨r5 _ (List.mem_of_getElem? (by assumption))⟩,by first|trivial|omega|exact⟨r5 _ (List.mem_of_getElem? (by assumption))⟩,by first|trivial|omega|exact⟨r5 _ (List.mem_of_getElem? (by assumption))⟩⟩
 · rfl
theorem zq92(c1c:Nat)(s_at s_seed:Int){As_0:Option Addr}{cs_0:Nat}(t:List UInt8){bs:Nat}{w:World}(hb:Bw w [boxO bs [.slice As_0 c1c cs_0,.int .i64 s_at,.int .u64 s_seed] 141])(hps_0:(Ty.bytes 5 c1c).ok (offW w (([boxO bs [.slice As_0 c1c cs_0,.int .i64 s_at,.int .u64 s_seed] 141]:List Own).flatMap (·.fp))) (.slice As_0 c1c cs_0))(r0:0<=s_at:=by exact om_)(r1:s_at<=999999992:=by exact om_)(r2:c1c<=1048576:=by exact om_)(r3:t.length<=900000:=by exact om_):RetB Tryz.prog 54 [.pointer (some ⟨bs,0,none⟩),.string (sB t)] w [boxO bs [.slice As_0 c1c cs_0,.int .i64 s_at,.int .u64 s_seed] 141] (λv bs'=>∃ (TX:List UInt8) (AT SD:Int),v=.string (sB TX)/\bs'=[boxO bs [.slice As_0 c1c cs_0,.int .i64 AT,.int .u64 SD] 141]/\(TX.length<=t.length + 8)/\(s_at<=AT)/\(AT<=s_at + 8)):=by
 have lbt:LenB t 900000:=⟨by omega⟩
 refine enterB hb @Tryz.func54 @Tryz.ntmps54 rfl rfl ?_
 refine zent ?_
 refine Js.trashE ?_
 refine zn ?_
 refine zS<|Qa rfl<|zJ<|zS<|Qm rfl<|zBB 1 sp_ rfl (λw hb _ hw=>zq0 c1c s_at s_seed 5 hb (ok_ hw)) ?_
 rintro _ _ G1 ⟨X1KX,X1AT,X1SD,rfl,rfl,hX1_0,hX1_1,hX1_2,hX1_3⟩
 refine znl ?_
 refine JL.nil ?_
 refine zf [0] λGG2=>?_
 refine zn ?_
 refine Js.block<|zS<|Qe rfl rfl<|Qa rfl<|JL.nil ?_
 refine zi (λh3 h3'=>?_) λh3 h3'=>?_
 ·refine zS<|Qm rfl<|Qm rfl<|Qq (a0t und_9 rfl)<|Qp rfl rfl<|zBB 1 sp_ rfl (λw hb _ hw=>zq0 c1c X1AT X1SD ((t.length:Int) + 1) hb (ok_ hw)) ?_
  rintro _ _ G4 ⟨X4KX,X4AT,X4SD,rfl,rfl,hX4_0,hX4_1,hX4_2,hX4_3⟩
  refine znl ?_
  refine Qa rfl<|JL.nil ?_
  refine zf [0] λGG5=>?_
  refine zn ?_
  refine zdr [5] ?_
  refine jM 0 rfl rfl ?_
  refine jM 1 rfl rfl ?_
  refine JH.p 2 rfl (a4o (i:=X4KX.toNat) und_9 rfl (by rw[Int.toNat_of_nonneg (by omega)];exact rfl) (by omega)) ?_
  refine jM 3 rfl rfl ?_
  refine jM 7 rfl rfl ?_
  refine jM 8 rfl rfl ?_
  refine JH.p 9 rfl (a4m (i:=X4KX.toNat) und_9 rfl (by rw[Int.toNat_of_nonneg (by omega)];exact rfl) (by omega)) ?_
  refine y1 4 ?_
  refine ybs rfl λb6=>?_
  refine y1 5 ?_
  refine zhh [1] ?_
  refine yBB 1 sp_ rfl rfl (λw hb _ hw=>zq153 c1c X4AT X4SD ([([32]:List UInt8),([48]:List UInt8),([45]:List UInt8),([120]:List UInt8),([49]:List UInt8),([57]:List UInt8),([46]:List UInt8)]) hb (ok_ hw) (a4g (xs:=([([32]:List UInt8),([48]:List UInt8),([45]:List UInt8),([120]:List UInt8),([49]:List UInt8),([57]:List UInt8),([46]:List UInt8)])) (hw.pr (i:=0) rfl)) (r3:=(by decide)) (r4:=(by decide)) (r5:=(by decide))) ?_
  rintro _ _ G8 ⟨X8TX,X8AT,X8SD,rfl,rfl,hX8_0,hX8_1,hX8_2⟩
  refine znh ?_
  refine JH.p 6 rfl (q_cat rfl rfl) ?_
  refine JH.p 10 rfl (q_cat rfl rfl) ?_
  refine jA 11 rfl rfl ?_
  refine yd ?_
  refine zf [0] λGG9=>?_
  refine zn ?_
  refine Js.blockEnd<|zS<|Qm rfl<|Qa rfl<|JL.nil ?_
  refine zrb [0] hb (Up.refl _ _) ?_
  refine⟨(((t.take X4KX.toNat)++X8TX)++(t.drop X4KX.toNat)),(X8AT),(X8SD),rfl, ?_,by first|trivial|assumption|omega|(simp only[List.length_append,List.length_take,List.length_drop,List.length_cons,List.length_nil];omega)|(simp only[List.length_append,List.length_take,List.length_drop];have h9:=(by assumption:LenB _ 8).h;omega),by first|trivial|assumption|omega|(simp only[List.length_append,List.length_take,List.length_drop,List.length_cons,List.length_nil];omega)|(simp only[List.length_append,List.length_take,List.length_drop];have h9:=(by assumption:LenB _ 8).h;omega),by first|trivial|assumption|omega|(simp only[List.length_append,List.length_take,List.length_drop,List.length_cons,List.length_nil];omega)|(simp only[List.length_append,List.length_take,List.length_drop];have h9:=(by assumption:LenB _ 8).h;omega)⟩
  · rfl
 refine zS<|Qe rfl rfl<|Qa rfl<|JL.nil ?_
 refine zi (λh10 h10'=>?_) λh10 h10'=>?_
 ·refine zS<|Qm rfl<|Qq (a2f und_9 rfl rfl)<|JL.nil ?_
  refine zi (λh11 h11'=>?_) λh11 h11'=>?_
  ·have ht0:0 < t.length:=List.length_pos_iff.2 (by simpa using h11)
   refine zS<|Qm rfl<|Qm rfl<|Qq (a0t und_9 rfl)<|zBB 1 sp_ rfl (λw hb _ hw=>zq0 c1c X1AT X1SD (t.length:Int) hb (ok_ hw)) ?_
   rintro _ _ G12 ⟨X12KX,X12AT,X12SD,rfl,rfl,hX12_0,hX12_1,hX12_2,hX12_3⟩
   refine znl ?_
   refine Qa rfl<|JL.nil ?_
   refine zf [0] λGG13=>?_
   refine zn ?_
   refine zdr [] ?_
   refine jM 0 rfl rfl ?_
   refine jM 1 rfl rfl ?_
   refine JH.p 2 rfl (a4o (i:=X12KX.toNat) und_9 rfl (by rw[Int.toNat_of_nonneg (by omega)];exact rfl) (by omega)) ?_
   refine jM 3 rfl rfl ?_
   refine jM 4 rfl rfl ?_
   refine JH.p 5 rfl (p_add rfl rfl (IntWalk.i64_in _ (by omega))) ?_
   refine JH.p 6 rfl (a4m (i:=(X12KX + 1).toNat) und_9 rfl (by rw[Int.toNat_of_nonneg (by omega)];exact rfl) (by omega)) ?_
   refine JH.p 7 rfl (q_cat rfl rfl) ?_
   refine jA 8 rfl rfl ?_
   refine yd ?_
   refine Js.blockEnd<|zS<|Qm rfl<|Qa rfl<|JL.nil ?_
   refine zrb [0] hb (Up.refl _ _) ?_
   refine⟨((t.take X12KX.toNat)++(t.drop ((X12KX + 1).toNat))),(X12AT),(X12SD),rfl, ?_,by first|trivial|assumption|omega|(simp only[List.length_append,List.length_take,List.length_drop,List.length_cons,List.length_nil];omega)|(simp only[List.length_append,List.length_take,List.length_drop];have h9:=(by assumption:LenB _ 8).h;omega),by first|trivial|assumption|omega|(simp only[List.length_append,List.length_take,List.length_drop,List.length_cons,List.length_nil];omega)|(simp only[List.length_append,List.length_take,List.length_drop];have h9:=(by assumption:LenB _ 8).h;omega),by first|trivial|assumption|omega|(simp only[List.length_append,List.length_take,List.length_drop,List.length_cons,List.length_nil];omega)|(simp only[List.length_append,List.length_take,List.length_drop];have h9:=(by assumption:LenB _ 8).h;omega)⟩
   · rfl
  refine Js.skip<|Js.blockEnd<|zS<|Qm rfl<|Qa rfl<|JL.nil ?_
  refine zrb [0] hb (Up.refl _ _) ?_
  refine⟨(t),(X1AT),(X1SD),rfl, ?_,by first|trivial|assumption|omega|(simp only[List.length_append,List.length_take,List.length_drop,List.length_cons,List.length_nil];omega)|(simp only[List.length_append,List.length_take,List.length_drop];have h9:=(by assumption:LenB _ 8).h;omega),by first|trivial|assumption|omega|(simp only[List.length_append,List.length_take,List.length_drop,List.length_cons,List.length_nil];omega)|(simp only[List.length_append,List.length_take,List.length_drop];have h9:=(by assumption:LenB _ 8).h;omega),by first|trivial|assumption|omega|(simp only[List.length_append,List.length_take,List.length_drop,List.length_cons,List.length_nil];omega)|(simp only[List.length_append,List.length_take,List.length_drop];have h9:=(by assumption:LenB _ 8).h;omega)⟩
  · rfl
 refine Js.skip<|Js.blockEnd<|zS<|Qm rfl<|Qa rfl<|JL.nil ?_
 refine zrb [0] hb (Up.refl _ _) ?_
 refine⟨(t),(X1AT),(X1SD),rfl, ?_,by first|trivial|assumption|omega|(simp only[List.length_append,List.length_take,List.length_drop,List.length_cons,List.length_nil];omega)|(simp only[List.length_append,List.length_take,List.length_drop];have h9:=(by assumption:LenB _ 8).h;omega),by first|trivial|assumption|omega|(simp only[List.length_append,List.length_take,List.length_drop,List.length_cons,List.length_nil];omega)|(simp only[List.length_append,List.length_take,List.length_drop];have h9:=(by assumption:LenB _ 8).h;omega),by first|trivial|assumption|omega|(simp only[List.length_append,List.length_take,List.length_drop,List.length_cons,List.length_nil];omega)|(simp only[List.length_append,List.length_take,List.length_drop];have h9:=(by assumption:LenB _ 8).h;omega)⟩
 · rfl
theorem zq43  {w:World}  : Ret Tryz.prog 172 [] w (Ty.strs 9 M.capNames):=by
 refine enter @Tryz.func172 @Tryz.ntmps172 rfl rfl ?_
 refine zent ?_
 refine zS<|Qa rfl<|zN<|zbs λb1=>?_
 refine Qa rfl<|JL.nil ?_
 exact zro (Up.refl _ _) (g:=by exact(a7z po_ (by rfl) (by rfl)))
theorem zq27  {w:World}  : Ret Tryz.prog 173 [] w (Ty.strs 9 M.slamNames):=by
 refine enter @Tryz.func173 @Tryz.ntmps173 rfl rfl ?_
 refine zent ?_
 refine zS<|Qa rfl<|zN<|zbs λb1=>?_
 refine Qa rfl<|JL.nil ?_
 exact zro (Up.refl _ _) (g:=by exact(a7z po_ (by rfl) (by rfl)))
theorem zq44  {w:World}  : Ret Tryz.prog 174 [] w (Ty.strs 9 M.fieldNames):=by
 refine enter @Tryz.func174 @Tryz.ntmps174 rfl rfl ?_
 refine zent ?_
 refine zS<|Qa rfl<|zN<|zbs λb1=>?_
 refine Qa rfl<|JL.nil ?_
 exact zro (Up.refl _ _) (g:=by exact(a7z po_ (by rfl) (by rfl)))
theorem zq17(b:Bool){w:World}  : RetV Tryz.prog 192 [.bool b] w (.int .i64 (M.bit b)):=by
 refine enter @Tryz.func192 @Tryz.ntmps192 rfl rfl ?_
 refine zent ?_
 refine zS<|Qa rfl<|zJ<|zS<|Qm rfl<|JL.nil ?_
 refine zi (λh1 h1'=>?_) λh1 h1'=>?_
 ·refine zS<|Qa rfl<|JL.nil ?_
  refine zR (Up.refl _ _) ?_
  first|(simp only[outV,M.bit, *,if_true,if_false];done)|(simp[outV,M.bit, *])
 refine Js.skip<|zS<|Qa rfl<|JL.nil ?_
 refine zR (Up.refl _ _) ?_
 first|(simp only[outV,M.bit, *,if_true,if_false];done)|(simp[outV,M.bit, *])
theorem zq154(r:M.Rul){v_r:Value}{w:World}(h_r:(Ty.ref (cRules r)).ok w v_r):Ret Tryz.prog 175 [v_r] w (Ty.ints 2 (M.fieldsL r)):=by
 revert v_r;apply opn
 intro b1 o1 hr1
 refine enter @Tryz.func175 @Tryz.ntmps175 rfl rfl ?_
 refine zent ?_
 refine zS<|Qa rfl<|zJ ?_
 refine zdr [] ?_
 refine jM 0 rfl rfl ?_
 refine jN 1 rfl rfl ?_
 refine jF 2 a3d rfl rfl ?_
 refine jW 3 ty_2 rfl rfl (λhv=>(hr1.vis hv) 0 _ rfl) ?_
 refine jM 4 rfl rfl ?_
 refine jN 5 rfl rfl ?_
 refine jF 6 a5p rfl rfl ?_
 refine jW 7 ty_2 rfl rfl (λhv=>(hr1.vis hv) 1 _ rfl) ?_
 refine jM 8 rfl rfl ?_
 refine jN 9 rfl rfl ?_
 refine jF 10 a9o rfl rfl ?_
 refine jW 11 ty_4 rfl rfl (λhv=>(hr1.vis hv) 2 _ rfl) ?_
 refine jM 13 rfl rfl ?_
 refine jN 14 rfl rfl ?_
 refine jF 15 fld_25_3 rfl rfl ?_
 refine jW 16 ty_4 rfl rfl (λhv=>(hr1.vis hv) 3 _ rfl) ?_
 refine jM 18 rfl rfl ?_
 refine jN 19 rfl rfl ?_
 refine jF 20 fld_25_4 rfl rfl ?_
 refine jW 21 ty_4 rfl rfl (λhv=>(hr1.vis hv) 4 _ rfl) ?_
 refine jM 23 rfl rfl ?_
 refine jN 24 rfl rfl ?_
 refine jF 25 b9g rfl rfl ?_
 refine jW 26 ty_4 rfl rfl (λhv=>(hr1.vis hv) 5 _ rfl) ?_
 refine jM 28 rfl rfl ?_
 refine jN 29 rfl rfl ?_
 refine jF 30 a9a rfl rfl ?_
 refine jW 31 ty_4 rfl rfl (λhv=>(hr1.vis hv) 6 _ rfl) ?_
 refine jM 33 rfl rfl ?_
 refine jN 34 rfl rfl ?_
 refine jF 35 a7c rfl rfl ?_
 refine jW 36 ty_2 rfl rfl (λhv=>(hr1.vis hv) 7 _ rfl) ?_
 refine jM 37 rfl rfl ?_
 refine jN 38 rfl rfl ?_
 refine jF 39 a5t rfl rfl ?_
 refine jW 40 ty_2 rfl rfl (λhv=>(hr1.vis hv) 8 _ rfl) ?_
 refine y1 12 ?_
 refine yv rfl rfl (λw hw=>zq17 r.stores) ?_
 refine y1 17 ?_
 refine yv rfl rfl (λw hw=>zq17 r.skip) ?_
 refine y1 22 ?_
 refine yv rfl rfl (λw hw=>zq17 r.relay) ?_
 refine y1 27 ?_
 refine yv rfl rfl (λw hw=>zq17 r.feed) ?_
 refine y1 32 ?_
 refine yv rfl rfl (λw hw=>zq17 r.again) ?_
 refine y1 41 ?_
 refine ybs rfl λb2=>?_
 refine jA 42 rfl rfl ?_
 refine yd ?_
 have hq0:[r.pits,r.seeds,(M.bit r.stores),(M.bit r.skip),(M.bit r.relay),(M.bit r.feed),(M.bit r.again),r.capture,r.slam]=M.fieldsL r:=by first|rfl|(simp[M.fieldsL];done)
 exact zro (Up.refl _ _)
theorem zq63(r:M.Rul){v_r:Value}{w:World}(h_r:(Ty.ref (cRules r)).ok w v_r)(r0:M.okR r=true:=by exact om_):RetV Tryz.prog 133 [v_r] w (.string (sB (M.rulesT r))):=by
 obtain⟨e1,e2,e3,e4,e5,e6,e7,e8⟩:=M.b6d r0
 have hl4:M.capNames.length=4:=rfl
 have hl3:M.slamNames.length=3:=rfl
 have hl9:M.fieldNames.length=9:=rfl
 have hf9:(M.fieldsL r).length=9:=rfl
 revert v_r;apply opn
 intro b1 o1 hr1
 refine enter @Tryz.func133 @Tryz.ntmps133 rfl rfl ?_
 refine zent ?_
 obtain⟨ye2,hye2⟩:∃ x,M.capNames[r.capture.toNat]?=some x:=⟨_,List.getElem?_eq_getElem (by omega)⟩
 have hcn:=M.b7n e5 hye2
 have lb7:LenB ye2 9:=⟨by rw[hcn];exact M.a6e _⟩
 obtain⟨ye3,hye3⟩:∃ x,M.slamNames[r.slam.toNat]?=some x:=⟨_,List.getElem?_eq_getElem (by omega)⟩
 have hsn:=M.b4p e7 hye3
 have lb8:LenB ye3 7:=⟨by rw[hsn];exact M.a5i _⟩
 refine zS<|Qa rfl<|zJ ?_
 refine zk [0] (λF U l os u=>l=F [(3,.string (sB (((((((([112,105,116,115,61]:List UInt8)++(M.dec r.pits))++([32,115,101,101,100,115,61]:List UInt8))++(M.dec r.seeds))++([32,99,97,112,116,117,114,101,61]:List UInt8))++ye2)++([32,115,108,97,109,61]:List UInt8))++ye3)))]/\os=[]) ?_ ?_
 ·refine zdr [] ?_
  refine jM 0 rfl rfl ?_
  refine jN 1 rfl rfl ?_
  refine jF 2 a3d rfl rfl ?_
  refine jW 3 ty_2 rfl rfl (λhv=>(hr1.vis hv) 0 _ rfl) ?_
  refine jM 7 rfl rfl ?_
  refine jN 8 rfl rfl ?_
  refine jF 9 a5p rfl rfl ?_
  refine jW 10 ty_2 rfl rfl (λhv=>(hr1.vis hv) 1 _ rfl) ?_
  refine jM 15 rfl rfl ?_
  refine jN 16 rfl rfl ?_
  refine jF 17 a7c rfl rfl ?_
  refine jW 18 ty_2 rfl rfl (λhv=>(hr1.vis hv) 7 _ rfl) ?_
  refine jM 24 rfl rfl ?_
  refine jN 25 rfl rfl ?_
  refine jF 26 a5t rfl rfl ?_
  refine jW 27 ty_2 rfl rfl (λhv=>(hr1.vis hv) 8 _ rfl) ?_
  refine y1 4 ?_
  refine yv rfl rfl (λw hw=>zq5 r.pits) ?_
  refine JH.p 5 rfl (q_cat rfl rfl) ?_
  refine JH.p 6 rfl (q_cat rfl rfl) ?_
  refine y1 11 ?_
  refine yv rfl rfl (λw hw=>zq5 r.seeds) ?_
  refine JH.p 12 rfl (q_cat rfl rfl) ?_
  refine JH.p 13 rfl (q_cat rfl rfl) ?_
  refine y1 14 ?_
  refine yp rfl rfl (λw hw=>zq43) ?_
  intro u14 x14 A15 c15 h15 bl15 bh15
  have hy16:=hye2
  obtain⟨b16,o16,he16,hc16⟩:=a0o h15 hy16
  refine jI 19 el_31 rfl rfl rfl he16 ?_
  refine y2 20 23 ?_ ?_
  ·refine JHo.q rfl (a0c ty_9.h rfl (Mem.pub hc16)) ?_
   refine JH.p 21 rfl (q_cat rfl rfl) ?_
   refine JH.p 22 rfl (q_cat rfl rfl) ?_
   refine y1 23 ?_
   refine yp rfl rfl (λw hw=>zq27) ?_
   intro u17 x17 A18 c18 h18 bl18 bh18
   have hy19:=hye3
   obtain⟨b19,o19,he19,hc19⟩:=a0o h18 hy19
   refine jI 28 el_31 rfl rfl rfl he19 ?_
   refine y1 29 ?_
   refine JHo.q rfl (a0c ty_9.h rfl (Mem.pub hc19)) ?_
   refine JH.p 30 rfl (q_cat rfl rfl) ?_
   refine jA 31 rfl rfl ?_
   refine yd ?_
   exact zm ⟨rfl,rfl⟩ (x14.trans x17)
  refine yp rfl rfl (λw hw=>zq27) ?_
  intro u20 x20 A21 c21 h21 bl21 bh21
  have hy22:=hye3
  obtain⟨b22,o22,he22,hc22⟩:=a0o h21 hy22
  refine jI 28 el_31 rfl rfl rfl he22 ?_
  refine y2 20 29 ?_ ?_
  ·refine JHo.q rfl (a0c ty_9.h rfl (Mem.pub (hc16.vis x20.vis))) ?_
   refine JH.p 21 rfl (q_cat rfl rfl) ?_
   refine JH.p 22 rfl (q_cat rfl rfl) ?_
   refine y1 29 ?_
   refine JHo.q rfl (a0c ty_9.h rfl (Mem.pub hc22)) ?_
   refine JH.p 30 rfl (q_cat rfl rfl) ?_
   refine jA 31 rfl rfl ?_
   refine yd ?_
   exact zm ⟨rfl,rfl⟩ (x14.trans x20)
  refine JHo.q rfl (a0c ty_9.h rfl (Mem.pub hc22)) ?_
  refine y1 20 ?_
  refine JHo.q rfl (a0c ty_9.h rfl (Mem.pub (hc16.vis x20.vis))) ?_
  refine JH.p 21 rfl (q_cat rfl rfl) ?_
  refine JH.p 22 rfl (q_cat rfl rfl) ?_
  refine JH.p 30 rfl (q_cat rfl rfl) ?_
  refine jA 31 rfl rfl ?_
  refine yd ?_
  exact zm ⟨rfl,rfl⟩ (x14.trans x20)
 rintro _ _ u13 ⟨rfl,rfl⟩ x13
 refine zn ?_
 refine zS<|zp rfl (λw hw=>zq44) ?_
 intro u23 x23 A24 c24 h24 bl24 bh24
 refine Qa rfl<|zN<|Qm rfl<|zp rfl (λw hw=>zq154 r (ok_ hw)) ?_
 intro u25 x25 A26 c26 h26 bl26 bh26
 refine Qa rfl<|zJ<|zS<|Qa rfl<|JL.nil<|Js.block ?_
 refine zl [4,5] (λF U l os u m=>∃ (k:Nat) (out:List UInt8),l=F [(3,.string (sB out)),(6,.int .i64 (k:Int))]/\os=U []/\(out=M.rulesN r (k - 2))/\(2<=k)/\(k<=7)/\m=7 - k) ⟨2,((((((([112,105,116,115,61]:List UInt8)++(M.dec r.pits))++([32,115,101,101,100,115,61]:List UInt8))++(M.dec r.seeds))++([32,99,97,112,116,117,114,101,61]:List UInt8))++ye2)++([32,115,108,97,109,61]:List UInt8))++ye3,rfl,rfl,by rw[hcn,hsn];rfl,zt,zt,rfl⟩ ?_
 rintro _ _ u27 _ ⟨k,out,rfl,rfl,hJ,hk2,hk,rfl⟩ x27
 refine zn ?_
 have lb9:LenB out 155:=⟨by rw[hJ];have:=M.a5l r (k - 2) (by omega);omega⟩
 refine Js.seq<|zS<|Qm rfl<|Qk rfl rfl<|JL.nil ?_
 refine zi (λh28 h28'=>?_) λh28 h28'=>?_
 ·have k6:k<=6:=by have:=h28';omega
  obtain⟨b29,o29,he29,hc29⟩:=a0l (Ty.mono _ h26 x27.vis) (i:=k) (by omega)
  refine Js.skip<|Js.seq<|Js.block<|zS<|Qm rfl<|Qm rfl<|Qq (a0a el_26 rfl rfl (by omega) (by omega) he29)<|QC hc29 rfl<|Qe rfl rfl<|JL.nil ?_
  refine zi (λh30 h30'=>?_) λh30 h30'=>?_
  ·have hv1:=h30'
   obtain⟨ye31,hye31⟩:∃ x,M.fieldNames[k]?=some x:=⟨_,List.getElem?_eq_getElem (by omega)⟩
   have lb6:LenB ye31 6:=⟨M.b1a (List.mem_of_getElem? (M.b0g (r:=r) hk2 k6 hye31).1)⟩
   have hJ2:=M.rulesN_s hJ hk2 k6 hye31 hv1
   have hy32:=hye31
   obtain⟨b32,o32,he32,hc32⟩:=a0o (Ty.mono _ h24 (x25.vis.trans x27.vis)) hy32
   refine Js.region<|Qm rfl<|Qm rfl<|Qm rfl<|Qq (a0a el_31 rfl rfl (by omega) (by omega) he32)<|QC hc32 rfl<|Qq (q_cat rfl rfl)<|Qq (q_cat rfl rfl)<|Qa rfl<|JL.nil<|Js.blockEnd<|Js.region<|Qm rfl<|Qp rfl rfl ?_
   refine Qa rfl<|JL.nil ?_
   exact zag ⟨k + 1,out++(([32]:List UInt8)++ye31),rfl,rfl,by exact hJ2,zt,zt,rfl⟩ x27
  have hJ2:=M.rulesN_n hJ hk2 k6 (by simpa using h30)
  refine Js.skip<|Js.blockEnd<|Js.region<|Qm rfl<|Qp rfl rfl<|Qa rfl<|JL.nil ?_
  exact zag ⟨k + 1,out,rfl,rfl,by exact hJ2,zt,zt,rfl⟩ x27
 have hJ3:out=M.rulesT r:=M.b9e (k:=k - 2) hJ (by have:=h28';omega) (by omega)
 refine zx ?_
 refine zS<|Qm rfl<|Qa rfl<|JL.nil ?_
 refine zR (((x13.trans x23).trans x25).trans x27) ?_
 rw[<- hJ3];rfl
theorem zq155(n m g:Int){w:World}(r0:0<=n:=by exact om_)(r1:n<=1000:=by exact om_)(r2:0<=m:=by exact om_)(r3:m<=8:=by exact om_)(r4 : -96<=g:=by exact om_)(r5:g<=96:=by exact om_):RetV Tryz.prog 135 [.int .i64 n,.int .i64 m,.int .i64 g] w (.string (sB (M.recLine n m g))):=by
 refine enter @Tryz.func135 @Tryz.ntmps135 rfl rfl ?_
 refine zent ?_
 refine zS<|Qa rfl<|zN<|Qm rfl<|zv rfl (λw hw=>zq5 n)<|Qq (q_cat rfl rfl)<|Qm rfl<|zv rfl (λw hw=>zq5 m)<|Qq (q_cat rfl rfl)<|Qq (q_cat rfl rfl)<|Qm rfl<|zv rfl (λw hw=>zq5 g)<|Qq (q_cat rfl rfl)<|Qa rfl ?_
 refine JL.nil ?_
 exact zr (Up.refl _ _)
theorem zq29(g:M.Gam){v_g:Value}{w:World}(h_g:(Ty.ref (cGame g)).ok w v_g)(r0:M.okG g=true:=by exact om_)(r1:g.start.pits.length<=4194304:=by exact om_)(r2:g.start.stores.length<=4194304:=by exact om_)(r3:g.moves.length<=4194304:=by exact om_)(r4:g.now.pits.length<=4194304:=by exact om_)(r5:g.now.stores.length<=4194304:=by exact om_):RetV Tryz.prog 76 [v_g] w (.string (sB (M.recT g))):=by
 have hok:=r0
 obtain⟨k1,k2,k3,k4,k5,k6,k7,k8,k9⟩:=M.a0u hok
 have kr:=(M.a7u k1)
 obtain⟨q1,q2,q3,q4,q5,q6,q7⟩:=M.a0y k1
 have kl:=M.a2a k1
 have kg:=M.b4e hok
 have lb2:LenB (M.posText g.start) 1000:=⟨M.a6m (by omega) (by omega)⟩
 revert v_g;apply opn
 intro b6 o6 A1 c1 h1 bl1 bh1 A2 c2 h2 bl2 bh2 A3 c3 h3 bl3 bh3 A4 c4 h4 bl4 bh4 A5 c5 h5 bl5 bh5 hr6
 refine enter @Tryz.func76 @Tryz.ntmps76 rfl rfl ?_
 refine zent ?_
 refine zS<|Qa rfl<|zJ ?_
 refine zdr [] ?_
 refine jM 0 rfl rfl ?_
 refine jN 1 rfl rfl ?_
 refine jF 2 a1u rfl rfl ?_
 refine jM 6 rfl rfl ?_
 refine jN 7 rfl rfl ?_
 refine jF 8 a2l rfl rfl ?_
 refine y1 3 ?_
 refine yv rfl rfl (λw hw=>zq63 g.rules (ok_ hw) (r0:=kr)) ?_
 refine JH.p 4 rfl (q_cat rfl rfl) ?_
 refine JH.p 5 rfl (q_cat rfl rfl) ?_
 refine y1 9 ?_
 refine yv rfl rfl (λw hw=>zq152 g.start (ok_ hw) (r2:=q5) (r3:=q6)) ?_
 refine JH.p 10 rfl (q_cat rfl rfl) ?_
 refine JH.p 11 rfl (q_cat rfl rfl) ?_
 refine y1 12 ?_
 refine JHo.e rfl (b5w und_9 a4z @Tryz.underlying5 rfl) (.inl rfl) ?_
 rintro v7 _ _ ⟨rfl,rfl⟩ _
 refine JH.fact (a4f (i:=0) rfl) (λhf7=>?_)
 obtain⟨A7,c7,rfl,bl7,bh7⟩:=hf7
 refine znh ?_
 refine jA 13 rfl rfl ?_
 refine yd ?_
 refine Js.seq ?_
 refine zdr [] ?_
 refine jM 0 rfl rfl ?_
 refine jN 1 rfl rfl ?_
 refine jF 2 a1u rfl rfl ?_
 refine jM 3 rfl rfl ?_
 refine jN 4 rfl rfl ?_
 refine jF 5 a2l rfl rfl ?_
 refine jM 6 rfl rfl ?_
 refine jN 7 rfl rfl ?_
 refine jF 8 a0x rfl rfl ?_
 refine jW 9 ty_26 rfl rfl (λhv=>(hr6.vis hv) 12 _ rfl) ?_
 refine y1 10 ?_
 refine yp rfl rfl (λw hw=>zq40 g.rules g.start g.moves (ok_ hw) (ok_ hw) (ok_ hw)) ?_
 intro u8 x8 A9 c9 h9 bl9 bh9 A10 c10 h10 bl10 bh10
 refine jM 11 rfl rfl ?_
 refine JH.p 12 rfl (a0p rfl rfl) ?_
 refine JH.p 13 rfl (a0p rfl rfl) ?_
 refine jA 14 rfl rfl ?_
 refine jA 15 rfl rfl ?_
 refine yd ?_
 refine Js.seq<|zS<|Qa rfl<|JL.nil<|Js.block ?_
 refine zl [0,5] (λF U l os u m=>∃ (k:Nat) (out:List UInt8) (A11_3:Option Addr) (c11_3:Nat) (g11_3:List Nat),l=F [(3,.slice A11_3 out.length c11_3),(6,.int .i64 (k:Int))]/\os=U [some (rowS 5 (.slice A11_3 out.length c11_3) out.length (byt_ out) g11_3)]/\(out=M.recB g k)/\(k<=g.moves.length)/\(out.length<=c11_3)/\(c11_3<=9223372036854775807)/\m=g.moves.length - k) ⟨0,(((([114,117,108,101,115,32]:List UInt8)++(M.rulesT g.rules))++([10,115,116,97,114,116,32]:List UInt8))++(M.posText g.start))++([10]:List UInt8),_,_,_,rfl,rfl,by rfl,zt,zu,zu,rfl⟩ ?_
 rintro _ _ u11 _ ⟨k,out,A11_3,c11_3,g11_3,rfl,rfl,hJ,hk,f11_2,f11_3,rfl⟩ x11
 refine zn ?_
 have hol:out.length<=10000:=by rw[hJ];exact M.a7a hok (by omega)
 obtain⟨n1,n2⟩:=M.a9d hok k
 obtain⟨n3,n4⟩:=M.a9i g k
 have n5:(M.gains (M.runs g.rules g.start g.moves)).length=g.moves.length:=kg
 change -96<=M.nth (M.gains (M.runs g.rules g.start g.moves)) k at n3
 change M.nth (M.gains (M.runs g.rules g.start g.moves)) k<=96 at n4
 refine Js.seq<|zS<|Qm rfl<|Qm rfl<|Qz rfl<|Ql rfl rfl<|JL.nil ?_
 refine zi (λh12 h12'=>?_) λh12 h12'=>?_
 ·refine Js.skip<|Js.seq<|Js.block<|Js.seq ?_
  refine zdr [15] ?_
  refine jM 0 rfl rfl ?_
  refine jM 1 rfl rfl ?_
  refine JH.p 2 rfl (p_add rfl rfl (IntWalk.i64_in _ (by omega))) ?_
  refine jM 3 rfl rfl ?_
  refine jN 4 rfl rfl ?_
  refine jF 5 a0x rfl rfl ?_
  refine JH.w 6 rfl (λos' u' hv=>a0c ty_26.h rfl (Mem.pub ((hr6.vis ((x8.vis.trans x11.vis).trans hv)) 12 _ rfl))) ?_
  refine jM 7 rfl rfl ?_
  obtain⟨b13,o13,he13,hc13⟩:=a0l (Ty.mono _ h3 (x8.vis.trans x11.vis)) (i:=k) (by omega)
  refine jI 8 el_26 rfl rfl rfl he13 ?_
  refine jW 9 ty_2 rfl rfl hc13.vis ?_
  refine jM 10 rfl rfl ?_
  refine jM 11 rfl rfl ?_
  obtain⟨b14,o14,he14,hc14⟩:=a0l (Ty.mono _ h10 x11.vis) (i:=k) (by omega)
  refine jI 12 el_26 rfl rfl rfl he14 ?_
  refine jW 13 ty_2 rfl rfl hc14.vis ?_
  refine y1 14 ?_
  refine yv rfl rfl (λw hw=>zq155 ((k:Int) + 1) (M.nth g.moves k) (M.nth (M.gains (M.runs g.rules g.start g.moves)) k)) ?_
  refine y1 15 ?_
  refine JHo.e rfl (a6t (i:=0) (n':=(out++(M.recLine ((k:Int) + 1) (M.nth g.moves k) (M.nth (M.gains (M.runs g.rules g.start g.moves)) k))).length) (vs':=byt_ (out++(M.recLine ((k:Int) + 1) (M.nth g.moves k) (M.nth (M.gains (M.runs g.rules g.start g.moves)) k)))) el_22 rfl rfl rfl rfl (src_str und_9) (by first|omega|(have:=M.a1s ((k:Int) + 1) (M.nth g.moves k) (M.nth (M.gains (M.runs g.rules g.start g.moves)) k);first|omega|(simp only[List.length_append,List.length_cons,List.length_nil];omega))|(have:=M.a1v g.resigned;simp only[List.length_append,List.length_cons,List.length_nil];omega)) (by first|omega|(have:=M.a1s ((k:Int) + 1) (M.nth g.moves k) (M.nth (M.gains (M.runs g.rules g.start g.moves)) k);first|omega|(simp only[List.length_append,List.length_cons,List.length_nil];omega))|(have:=M.a1v g.resigned;simp only[List.length_append,List.length_cons,List.length_nil];omega)) ln2_ (by first|rfl|(simp[byt_];done))) (.inr rfl) ?_
  rintro v15 _ _ ⟨⟨g16,rfl⟩,rfl⟩ _
  refine JH.fact (a4f (i:=0) rfl) (λhf17=>?_)
  obtain⟨A17,c17,rfl,bl17,bh17⟩:=hf17
  refine znh ?_
  refine jA 16 rfl rfl ?_
  refine yd ?_
  have hu20:((M.u8 10).toNat:Int)=10:=M.b5r (by omega) (by omega)
  refine Js.region<|Qm rfl<|zbs λb18=>?_
  refine JL.e (a6t (i:=1) (n':=((out++(M.recLine ((k:Int) + 1) (M.nth g.moves k) (M.nth (M.gains (M.runs g.rules g.start g.moves)) k)))++([M.u8 10]:List UInt8)).length) (vs':=byt_ ((out++(M.recLine ((k:Int) + 1) (M.nth g.moves k) (M.nth (M.gains (M.runs g.rules g.start g.moves)) k)))++([M.u8 10]:List UInt8))) el_22 rfl rfl rfl rfl (a8y (i:=0) a4z rfl rfl) (by first|omega|(have:=M.a1s ((k:Int) + 1) (M.nth g.moves k) (M.nth (M.gains (M.runs g.rules g.start g.moves)) k);first|omega|(simp only[List.length_append,List.length_cons,List.length_nil];omega))|(have:=M.a1v g.resigned;simp only[List.length_append,List.length_cons,List.length_nil];omega)) (by first|omega|(have:=M.a1s ((k:Int) + 1) (M.nth g.moves k) (M.nth (M.gains (M.runs g.rules g.start g.moves)) k);first|omega|(simp only[List.length_append,List.length_cons,List.length_nil];omega))|(have:=M.a1v g.resigned;simp only[List.length_append,List.length_cons,List.length_nil];omega)) ln2_ (by first|rfl|(simp[byt_,hu20];done))) ?_
  rintro v21 _ _ ⟨⟨g22,rfl⟩,rfl⟩ _
  refine JL.fact (a4f (i:=1) rfl) (λhf23=>?_)
  obtain⟨A23,c23,rfl,bl23,bh23⟩:=hf23
  refine znl ?_
  refine Qa rfl<|JL.nil<|Js.blockEnd<|Js.region<|Qm rfl<|Qp rfl rfl<|Qa rfl<|JL.nil ?_
  refine zd [1] rfl λu24 x24=>?_
  exact zag ⟨k + 1,(out++(M.recLine ((k:Int) + 1) (M.nth g.moves k) (M.nth (M.gains (M.runs g.rules g.start g.moves)) k)))++([M.u8 10]:List UInt8),_,_,_,rfl,rfl,by exact M.recB_s hJ,zt,zu,zu,rfl⟩ (x11.trans x24)
 have hJ3:=M.recB_e hJ (by have:=h12';rw[show(M.gains (M.runs g.rules g.start g.moves)).length=g.moves.length from kg] at this;omega) hk
 have hol:out.length<=10000:=by rw[hJ];exact M.a7a hok (by omega)
 refine zx ?_
 refine Js.seq<|zS<|Qm rfl<|Qc rfl<|Qf fh rfl<|QC ((hr6.vis (x8.vis.trans x11.vis)) 16 _ rfl) rfl<|Qh rfl rfl<|JL.nil ?_
 refine zi (λh25 h25'=>?_) λh25 h25'=>?_
 ·have hR:=M.recT_r hJ3 (by have:=h25';omega)
  refine Js.region<|Qm rfl<|Qm rfl<|Qc rfl<|Qf fh rfl<|QC ((hr6.vis (x8.vis.trans x11.vis)) 16 _ rfl) rfl<|zv rfl (λw hw=>zq5 g.resigned)<|Qq (q_cat rfl rfl)<|Qq (q_cat rfl rfl) ?_
  refine JL.e (a6t (i:=0) (n':=(out++((([114,101,115,105,103,110,115,32]:List UInt8)++(M.dec g.resigned))++([10]:List UInt8))).length) (vs':=byt_ (out++((([114,101,115,105,103,110,115,32]:List UInt8)++(M.dec g.resigned))++([10]:List UInt8)))) el_22 rfl rfl rfl rfl (src_str und_9) (by first|omega|(have:=M.a1s ((k:Int) + 1) (M.nth g.moves k) (M.nth (M.gains (M.runs g.rules g.start g.moves)) k);first|omega|(simp only[List.length_append,List.length_cons,List.length_nil];omega))|(have:=M.a1v g.resigned;simp only[List.length_append,List.length_cons,List.length_nil];omega)) (by first|omega|(have:=M.a1s ((k:Int) + 1) (M.nth g.moves k) (M.nth (M.gains (M.runs g.rules g.start g.moves)) k);first|omega|(simp only[List.length_append,List.length_cons,List.length_nil];omega))|(have:=M.a1v g.resigned;simp only[List.length_append,List.length_cons,List.length_nil];omega)) ln2_ (by first|rfl|(simp[byt_];done))) ?_
  rintro v26 _ _ ⟨⟨g27,rfl⟩,rfl⟩ _
  refine JL.fact (a4f (i:=0) rfl) (λhf28=>?_)
  obtain⟨A28,c28,rfl,bl28,bh28⟩:=hf28
  refine znl ?_
  refine Qa rfl<|zN<|Qm rfl<|Qw (b1z (i:=0) a4z @Tryz.underlying5 und_9 rfl rfl)<|Qa rfl<|JL.nil ?_
  refine zR (x8.trans x11) ?_
  rw[hR];rfl
 have hR:=M.recT_n hJ3 (by have:=h25';omega)
 refine Js.skip<|zS<|Qm rfl<|Qw (b1z (i:=0) a4z @Tryz.underlying5 und_9 rfl rfl)<|Qa rfl<|JL.nil ?_
 refine zR (x8.trans x11) ?_
 rw[hR];rfl
theorem zq124(g:M.Gam){v_g:Value}{w:World}(h_g:(Ty.agg (cGame g)).ok w v_g)(r0:g.start.pits.length<=4194304:=by exact om_)(r1:g.start.stores.length<=4194304:=by exact om_)(r2:g.moves.length<=4194304:=by exact om_)(r3:g.now.pits.length<=4194304:=by exact om_)(r4:g.now.stores.length<=4194304:=by exact om_):RetV Tryz.prog 34 [v_g] w (.string (sB (M.recTR g))):=by
 revert v_g;apply opn
 intro A1 c1 h1 bl1 bh1 A2 c2 h2 bl2 bh2 A3 c3 h3 bl3 bh3 A4 c4 h4 bl4 bh4 A5 c5 h5 bl5 bh5
 refine enter @Tryz.func34 @Tryz.ntmps34 rfl rfl ?_
 refine zent ?_
 refine zS<|zb rfl λb6=>Qa rfl<|zJ<|zS<|zv rfl (λw hw=>zq78 g (ok_ hw))<|Qt rfl<|JL.nil ?_
 refine zi (λh7 h7'=>?_) λh7 h7'=>?_
 ·have hno:M.okG g=false:=by simpa using h7
  have hE:=M.b3d hno
  refine zS<|Qa rfl<|JL.nil ?_
  refine zR (Up.refl _ _) ?_
  rw[hE];rfl
 have hok:M.okG g=true:=by simpa using h7
 have hE:=M.a6o hok
 refine Js.skip<|zS<|zv rfl (λw hw=>zq29 g (ok_ hw) (r0:=hok))<|Qa rfl<|JL.nil ?_
 refine zR (Up.refl _ _) ?_
 rw[hE];rfl
theorem zq12(t:List UInt8)(b:Int){w:World}(r0:t.length<=4194304:=by exact om_)(r1:0<=b:=by exact om_)(r2:b<=255:=by exact om_):Ret Tryz.prog 55 [.string (sB t),.int .u8 b] w (Ty.strs 9 (M.split (M.u8 b) t)):=by
 refine enter @Tryz.func55 @Tryz.ntmps55 rfl rfl ?_
 refine zent ?_
 refine zS<|Qa rfl<|zN<|zbs λb1=>?_
 refine Qa rfl<|zN<|Qa rfl<|zJ<|zS<|Qa rfl<|JL.nil<|Js.block ?_
 refine zl [0,1] (λF U l os u m=>∃ (k f:Nat) (out:List (List UInt8)) (A3_5:Option Addr) (c3_5:Nat) (g3_5:List Nat),l=F [(5,.slice A3_5 out.length c3_5),(6,.int .i64 (f:Int)),(7,.int .i64 (k:Int))]/\os=U [some (rowO 9 1 (.slice A3_5 out.length c3_5) out.length (txs_ out) g3_5)]/\(M.SplI (M.u8 b) t f k out)/\(k<=t.length)/\(out.length<=c3_5)/\(c3_5<=9223372036854775807)/\m=t.length - k) ⟨0,0,[],_,_,_,rfl,rfl,by exact M.SplI.zero _ _,zt,zu,zu,rfl⟩ ?_
 rintro _ _ u3 _ ⟨k,f,out,A3_5,c3_5,g3_5,rfl,rfl,hS,hk,f3_2,f3_3,rfl⟩ x3
 refine zn ?_
 have hl1:=hS.l
 have hl2:=hS.len
 have hl3:=M.a1p (M.u8 b) t
 refine Js.seq<|zS<|Qm rfl<|Qm rfl<|Qq (a0t und_9 rfl)<|Ql rfl rfl<|JL.nil ?_
 refine zi (λh4 h4'=>?_) λh4 h4'=>?_
 ·have hbt5:=M.a3b t k
  refine Js.skip<|Js.seq<|Js.block<|zS<|Qm rfl<|Qm rfl<|Qq (a1w (i:=k) und_9 rfl rfl (by omega))<|Qm rfl<|Qe rfl rfl<|JL.nil ?_
  refine zi (λh6 h6'=>?_) λh6 h6'=>?_
  ·have hS2:=hS.hit (b:=b) (by omega) (by simpa using h6)
   refine zS<|Qm rfl<|Qm rfl<|Qm rfl<|Qm rfl<|Qq (p_midS (i:=f) (j:=k) und_9 rfl rfl rfl (by omega) (by omega))<|zbs λb7=>?_
   refine JL.e (a0g (i:=1) (n':=(out++[(t.drop f).take (k - f)]).length) (vs':=txs_ (out++[(t.drop f).take (k - f)])) el_31 rfl rfl rfl rfl (a0k (i:=0) a9z rfl rfl) (by omega) (by omega) ln2_ (by first|rfl|(simp[txs_];done))) ?_
   rintro v9 _ _ ⟨⟨g10,rfl⟩,rfl⟩ _
   refine JL.fact (row_form' (i:=1) rfl) (λhf11=>?_)
   obtain⟨A11,c11,rfl,bl11,bh11⟩:=hf11
   refine znl ?_
   refine Qa rfl<|zG<|Qm rfl<|Qp rfl rfl<|Qa rfl<|JL.nil<|Js.blockEnd<|Js.region<|Qm rfl<|Qp rfl rfl<|Qa rfl<|JL.nil ?_
   refine zd [1] rfl λu12 x12=>?_
   exact zag ⟨k + 1,k + 1,out++[(t.drop f).take (k - f)],_,_,_,rfl,rfl,by exact hS2,zt,zu,zu,rfl⟩ (x3.trans x12)
  have hS2:=hS.miss (b:=b) (by omega) r1 r2 (by simpa using h6)
  refine Js.skip<|Js.blockEnd<|Js.region<|Qm rfl<|Qp rfl rfl<|Qa rfl<|JL.nil ?_
  exact zag ⟨k + 1,f,out,_,_,_,rfl,rfl,by exact hS2,zt,zu,zu,rfl⟩ x3
 have hE:=hS.done (by have:=h4';omega)
 have hl1:=hS.l
 have hl2:=hS.len
 have hl3:=M.a1p (M.u8 b) t
 refine zx ?_
 refine zS<|Qm rfl<|Qm rfl<|Qm rfl<|Qq (a4m (i:=f) und_9 rfl rfl (by omega))<|zbs λb13=>?_
 refine JL.e (a0g (i:=1) (n':=(out++[t.drop f]).length) (vs':=txs_ (out++[t.drop f])) el_31 rfl rfl rfl rfl (a0k (i:=0) a9z rfl rfl) (by omega) (by omega) ln2_ (by first|rfl|(simp[txs_];done))) ?_
 rintro v15 _ _ ⟨⟨g16,rfl⟩,rfl⟩ _
 refine JL.fact (row_form' (i:=1) rfl) (λhf17=>?_)
 obtain⟨A17,c17,rfl,bl17,bh17⟩:=hf17
 refine znl ?_
 have hq0:(out++[t.drop f])=M.split (M.u8 b) t:=by exact hE
 refine Qa rfl<|JL.nil ?_
 exact zro x3 (g:=by exact(b3t (ys:=out++[t.drop f]) po_ (by assumption) (by rfl)))
theorem zq86(c:Int){w:World}  : RetV Tryz.prog 112 [.int .u8 c] w (.bool (M.isDig c)):=by
 refine enter @Tryz.func112 @Tryz.ntmps112 rfl rfl ?_
 refine zent ?_
 refine zS<|Qa rfl<|zN<|Qm rfl<|Qh rfl rfl<|Qm rfl<|zg (Gd.t1 rfl rfl rfl) (λhc=>a0e rfl)<|zg (Gd.t1 rfl rfl rfl) (λhc=>p_leq (gh hc rfl) rfl)<|Qq (a0d rfl rfl rfl)<|Qa rfl<|JL.nil ?_
 exact zr (Up.refl _ _)
theorem zq8(t:List UInt8){w:World}(r0:t.length<=4194304:=by exact om_):RetV Tryz.prog 56 [.string (sB t)] w (.tuple #[.int .i64 ((M.num t).1),.bool ((M.num t).2)]):=by
 refine enter @Tryz.func56 @Tryz.ntmps56 rfl rfl ?_
 refine zent ?_
 have hbt1:=M.a3b t 0
 refine zS<|Qa rfl<|Qa rfl<|zN<|Qm rfl<|Qa rfl<|zJ<|zS<|Qm rfl<|Qq (a2f und_9 rfl rfl)<|Qm rfl<|zg (Gd.t1 rfl rfl rfl) (λhc=>a0e rfl)<|zg (Gd.t1 rfl rfl rfl) (λhc=>a1w (i:=0) und_9 (gh hc rfl) rfl (by first|have hc9:=hc;(try simp only[Bool.not_eq_true',decide_eq_false_iff_not] at hc9);omega|(have h9:=List.length_pos_iff.2 (by simpa using hc);omega)|(have h9:=hc;simp at h9;omega))) ?_
 refine zg (Gd.t1 rfl rfl rfl) (λhc=>p_eql (gh hc rfl) rfl)<|Qq (a0d rfl rfl rfl)<|JL.nil ?_
 refine zi (λh2 h2'=>?_) λh2 h2'=>?_
 ·have hT:M.numT t=t.drop 1:=by have h9:=h2;simp at h9;exact M.numT_y h9.1 h9.2
  have hln:1<=t.length:=by have h9:=h2;simp at h9;exact List.length_pos_iff.2 h9.1
  refine Js.region<|Qm rfl<|Qq (a4m (i:=1) und_9 rfl rfl (by omega))<|Qa rfl<|zJ<|zS<|Qm rfl<|Qq (a0t und_9 rfl)<|Ql rfl rfl<|Qm rfl<|zg (Gd.f1 rfl rfl rfl) (λhc=>a0e rfl)<|zg (Gd.f1 rfl rfl rfl) (λhc=>a0t und_9 (gh hc rfl))<|zg (Gd.f1 rfl rfl rfl) (λhc=>p_gtr (gh hc rfl) rfl)<|Qq (a0j rfl rfl rfl) ?_
  refine JL.nil ?_
  refine zi (λh3 h3'=>?_) λh3 h3'=>?_
  ·have hE:=M.b2t (s:=t) (by rw[hT];have h9:=h3;simp at h9;omega)
   refine zS<|Qa rfl<|Qa rfl<|JL.nil ?_
   refine zR (Up.refl _ _) ?_
   first|(rw[hE];rfl)|(rw[hE,hS];rfl)
  have hl9:¬ ((M.numT t).length < 1\/18 < (M.numT t).length):=by rw[hT];have h9:=h3;simp at h9;omega
  refine Js.skip<|zS<|Qa rfl<|zJ<|zS<|Qa rfl<|JL.nil<|Js.block ?_
  refine zl [0,4] (λF U l os u m=>∃ (k:Nat) (n:Int),l=F [(5,.int .i64 n),(6,.int .i64 (k:Int))]/\os=U []/\(n=M.numN (M.numT t) k)/\(M.Digs (M.numT t) k)/\(k<=(M.numT t).length)/\m=(M.numT t).length - k) ⟨0,0,rfl,rfl,by rfl,by exact M.Digs.zero _,zt,rfl⟩ ?_
  rintro _ _ u4 _ ⟨k,n,rfl,rfl,hN,hD,hk,rfl⟩ x4
  refine zn ?_
  obtain⟨n1,n2⟩:=M.a9v hD (by omega)
  rw[<- hN] at n1 n2
  refine Js.seq<|zS<|Qm rfl<|Qm rfl<|Qq (a0t und_9 rfl)<|Ql rfl rfl<|JL.nil ?_
  refine zi (λh5 h5'=>?_) λh5 h5'=>?_
  ·have hkk:k < (M.numT t).length:=by rw[hT];have:=h5';omega
   obtain⟨n3,n4⟩:=M.b2a hD (by omega)
   rw[<- hN] at n3 n4
   have hbt6:=M.a3b (t.drop 1) k
   refine Js.skip<|Js.seq<|Js.block<|Js.seq<|zS<|Qm rfl<|Qm rfl<|Qq (a1w (i:=k) und_9 rfl rfl (by omega))<|zv rfl (λw hw=>zq86 (M.bat (t.drop 1) k))<|Qt rfl<|JL.nil ?_
   refine zi (λh7 h7'=>?_) λh7 h7'=>?_
   ·have hE:=M.b3h (M.b2r hkk (by rw[hT];simpa using h7))
    refine zS<|Qa rfl<|Qa rfl<|JL.nil ?_
    refine zR x4 ?_
    first|(rw[hE];rfl)|(rw[hE,hS];rfl)
   have hd:M.isDig (M.bat (M.numT t) k)=true:=by rw[hT];simpa using h7
   have hD2:=hD.step hd
   obtain⟨d1,d2⟩:=M.b1g hd
   rw[hT] at d1 d2
   have hbt8:=M.a3b (t.drop 1) k
   refine Js.skip<|Js.region<|Qm rfl<|Qu rfl rfl<|Qm rfl<|Qm rfl<|Qq (a1w (i:=k) und_9 rfl rfl (by omega))<|Qq (p_sub rfl rfl (IntWalk.u8_in _ (by omega)))<|Qq (a4u @Tryz.underlying5 @Tryz.underlying2 rfl (IntWalk.i64_in _ (by omega)))<|Qp rfl rfl<|Qa rfl<|JL.nil<|Js.blockEnd<|Js.region ?_
   refine Qm rfl<|Qp rfl rfl<|Qa rfl<|JL.nil ?_
   exact zag ⟨k + 1,(10 * n) + ((M.bat (t.drop 1) k) - 48),rfl,rfl,by rw[hN,M.numN,hT],by exact hD2,zt,rfl⟩ x4
  have hke:k=(M.numT t).length:=Nat.le_antisymm hk (by rw[hT];have:=h5';omega)
  have hdg:=M.a5s hD (by omega)
  rw[hke] at hN
  refine zx ?_
  refine Js.seq<|zS<|Qm rfl<|Qq (a0t und_9 rfl)<|Qm rfl<|Qq (a0t und_9 rfl)<|Ql rfl rfl<|JL.nil ?_
  refine zi (λh9 h9'=>?_) λh9 h9'=>?_
  ·have hS:M.numS t=-n:=by rw[hN];exact M.a9c (by rw[hT];have:=h9';omega)
   refine Js.region<|Qm rfl<|Qq (p_neg (r:=-n) rfl (by rw[Int.zero_sub];exact IntWalk.i64_in _ (by omega)))<|Qa rfl<|zJ<|zS<|Qm rfl<|zv rfl (λw hw=>zq5 (-n))<|Qm rfl<|Qq (a2f und_9 rfl rfl)<|JL.nil ?_
   refine zi (λh10 h10'=>?_) λh10 h10'=>?_
   ·have hE:=M.a8m (s:=t) (by rw[hS];simpa using h10)
    refine zS<|Qa rfl<|Qa rfl<|JL.nil ?_
    refine zR x4 ?_
    first|(rw[hE];rfl)|(rw[hE,hS];rfl)
   have hE:=M.a3m hl9 hdg (by rw[hS];simpa using h10)
   refine Js.skip<|zS<|Qm rfl<|Qa rfl<|Qa rfl<|JL.nil ?_
   refine zR x4 ?_
   first|(rw[hE];rfl)|(rw[hE,hS];rfl)
  have hS:M.numS t=n:=by rw[hN];exact M.a9k (by rw[hT];have:=h9';omega)
  refine Js.skip<|Js.seq<|zS<|Qm rfl<|zv rfl (λw hw=>zq5 n)<|Qm rfl<|Qq (a2f und_9 rfl rfl)<|JL.nil ?_
  refine zi (λh11 h11'=>?_) λh11 h11'=>?_
  ·have hE:=M.a8m (s:=t) (by rw[hS];simpa using h11)
   refine zS<|Qa rfl<|Qa rfl<|JL.nil ?_
   refine zR x4 ?_
   first|(rw[hE];rfl)|(rw[hE,hS];rfl)
  have hE:=M.a3m hl9 hdg (by rw[hS];simpa using h11)
  refine Js.skip<|zS<|Qm rfl<|Qa rfl<|Qa rfl<|JL.nil ?_
  refine zR x4 ?_
  first|(rw[hE];rfl)|(rw[hE,hS];rfl)
 have hT:M.numT t=t:=M.numT_n (by have h9:=h2;simp at h9;intro⟨a,b⟩;exact h9 a b)
 refine Js.skip<|Js.seq<|zS<|Qm rfl<|Qq (a0t und_9 rfl)<|Ql rfl rfl<|Qm rfl<|zg (Gd.f1 rfl rfl rfl) (λhc=>a0e rfl)<|zg (Gd.f1 rfl rfl rfl) (λhc=>a0t und_9 (gh hc rfl))<|zg (Gd.f1 rfl rfl rfl) (λhc=>p_gtr (gh hc rfl) rfl)<|Qq (a0j rfl rfl rfl)<|JL.nil ?_
 refine zi (λh12 h12'=>?_) λh12 h12'=>?_
 ·have hE:=M.b2t (s:=t) (by rw[hT];have h9:=h12;simp at h9;omega)
  refine zS<|Qa rfl<|Qa rfl<|JL.nil ?_
  refine zR (Up.refl _ _) ?_
  first|(rw[hE];rfl)|(rw[hE,hS];rfl)
 have hl9:¬ ((M.numT t).length < 1\/18 < (M.numT t).length):=by rw[hT];have h9:=h12;simp at h9;omega
 refine Js.skip<|zS<|Qa rfl<|zJ<|zS<|Qa rfl<|JL.nil<|Js.block ?_
 refine zl [0,4] (λF U l os u m=>∃ (k:Nat) (n:Int),l=F [(5,.int .i64 n),(6,.int .i64 (k:Int))]/\os=U []/\(n=M.numN (M.numT t) k)/\(M.Digs (M.numT t) k)/\(k<=(M.numT t).length)/\m=(M.numT t).length - k) ⟨0,0,rfl,rfl,by rfl,by exact M.Digs.zero _,zt,rfl⟩ ?_
 rintro _ _ u13 _ ⟨k,n,rfl,rfl,hN,hD,hk,rfl⟩ x13
 refine zn ?_
 obtain⟨n1,n2⟩:=M.a9v hD (by omega)
 rw[<- hN] at n1 n2
 refine Js.seq<|zS<|Qm rfl<|Qm rfl<|Qq (a0t und_9 rfl)<|Ql rfl rfl<|JL.nil ?_
 refine zi (λh14 h14'=>?_) λh14 h14'=>?_
 ·have hkk:k < (M.numT t).length:=by rw[hT];have:=h14';omega
  obtain⟨n3,n4⟩:=M.b2a hD (by omega)
  rw[<- hN] at n3 n4
  have hbt15:=M.a3b t k
  refine Js.skip<|Js.seq<|Js.block<|Js.seq<|zS<|Qm rfl<|Qm rfl<|Qq (a1w (i:=k) und_9 rfl rfl (by omega))<|zv rfl (λw hw=>zq86 (M.bat t k))<|Qt rfl<|JL.nil ?_
  refine zi (λh16 h16'=>?_) λh16 h16'=>?_
  ·have hE:=M.b3h (M.b2r hkk (by rw[hT];simpa using h16))
   refine zS<|Qa rfl<|Qa rfl<|JL.nil ?_
   refine zR x13 ?_
   first|(rw[hE];rfl)|(rw[hE,hS];rfl)
  have hd:M.isDig (M.bat (M.numT t) k)=true:=by rw[hT];simpa using h16
  have hD2:=hD.step hd
  obtain⟨d1,d2⟩:=M.b1g hd
  rw[hT] at d1 d2
  have hbt17:=M.a3b t k
  refine Js.skip<|Js.region<|Qm rfl<|Qu rfl rfl<|Qm rfl<|Qm rfl<|Qq (a1w (i:=k) und_9 rfl rfl (by omega))<|Qq (p_sub rfl rfl (IntWalk.u8_in _ (by omega)))<|Qq (a4u @Tryz.underlying5 @Tryz.underlying2 rfl (IntWalk.i64_in _ (by omega)))<|Qp rfl rfl<|Qa rfl<|JL.nil<|Js.blockEnd<|Js.region ?_
  refine Qm rfl<|Qp rfl rfl<|Qa rfl<|JL.nil ?_
  exact zag ⟨k + 1,(10 * n) + ((M.bat t k) - 48),rfl,rfl,by rw[hN,M.numN,hT],by exact hD2,zt,rfl⟩ x13
 have hke:k=(M.numT t).length:=Nat.le_antisymm hk (by rw[hT];have:=h14';omega)
 have hdg:=M.a5s hD (by omega)
 rw[hke] at hN
 refine zx ?_
 refine Js.seq<|zS<|Qm rfl<|Qq (a0t und_9 rfl)<|Qm rfl<|Qq (a0t und_9 rfl)<|Ql rfl rfl<|JL.nil ?_
 refine zi (λh18 h18'=>?_) λh18 h18'=>?_
 ·have hS:M.numS t=-n:=by rw[hN];exact M.a9c (by rw[hT];have:=h18';omega)
  refine Js.region<|Qm rfl<|Qq (p_neg (r:=-n) rfl (by rw[Int.zero_sub];exact IntWalk.i64_in _ (by omega)))<|Qa rfl<|zJ<|zS<|Qm rfl<|zv rfl (λw hw=>zq5 (-n))<|Qm rfl<|Qq (a2f und_9 rfl rfl)<|JL.nil ?_
  refine zi (λh19 h19'=>?_) λh19 h19'=>?_
  ·have hE:=M.a8m (s:=t) (by rw[hS];simpa using h19)
   refine zS<|Qa rfl<|Qa rfl<|JL.nil ?_
   refine zR x13 ?_
   first|(rw[hE];rfl)|(rw[hE,hS];rfl)
  have hE:=M.a3m hl9 hdg (by rw[hS];simpa using h19)
  refine Js.skip<|zS<|Qm rfl<|Qa rfl<|Qa rfl<|JL.nil ?_
  refine zR x13 ?_
  first|(rw[hE];rfl)|(rw[hE,hS];rfl)
 have hS:M.numS t=n:=by rw[hN];exact M.a9k (by rw[hT];have:=h18';omega)
 refine Js.skip<|Js.seq<|zS<|Qm rfl<|zv rfl (λw hw=>zq5 n)<|Qm rfl<|Qq (a2f und_9 rfl rfl)<|JL.nil ?_
 refine zi (λh20 h20'=>?_) λh20 h20'=>?_
 ·have hE:=M.a8m (s:=t) (by rw[hS];simpa using h20)
  refine zS<|Qa rfl<|Qa rfl<|JL.nil ?_
  refine zR x13 ?_
  first|(rw[hE];rfl)|(rw[hE,hS];rfl)
 have hE:=M.a3m hl9 hdg (by rw[hS];simpa using h20)
 refine Js.skip<|zS<|Qm rfl<|Qa rfl<|Qa rfl<|JL.nil ?_
 refine zR x13 ?_
 first|(rw[hE];rfl)|(rw[hE,hS];rfl)
theorem zq32(s:List UInt8){w:World}(r0:s.length<=4194304:=by exact om_):Ret Tryz.prog 203 [.string (sB s)] w (Ty.tup [Ty.ints 2 ((M.nums s).1),Ty.bool ((M.nums s).2)]):=by
 refine enter @Tryz.func203 @Tryz.ntmps203 rfl rfl ?_
 refine zent ?_
 refine zS<|Qa rfl<|Qa rfl<|zN<|zbs λb1=>?_
 refine Qa rfl<|zN<|Qm rfl<|zp rfl (λw hw=>zq12 s 44) ?_
 intro u3 x3 A4 c4 h4 bl4 bh4
 refine Qa rfl<|zJ<|zS<|Qa rfl<|JL.nil<|Js.block ?_
 refine zl [5] (λF U l os u m=>∃ (k:Nat) (out:List Int) (A5_4:Option Addr) (c5_4:Nat) (g5_4:List Nat),l=F [(4,.slice A5_4 out.length c5_4),(6,.int .i64 (k:Int))]/\os=U [some (rowO 2 1 (.slice A5_4 out.length c5_4) out.length (ints_ out) g5_4)]/\(out=M.numsV ((M.split (M.u8 44) s).take k))/\(M.numsOk ((M.split (M.u8 44) s).take k)=true)/\(k<=(M.split (M.u8 44) s).length)/\(out.length=k)/\(out.length<=c5_4)/\(c5_4<=9223372036854775807)/\m=(M.split (M.u8 44) s).length - k) ⟨0,[],_,_,_,rfl,rfl,by rfl,by rfl,zt,by rfl,zu,zu,rfl⟩ ?_
 rintro _ _ u5 _ ⟨k,out,A5_4,c5_4,g5_4,rfl,rfl,hO,hK,hk,hl,f5_4,f5_5,rfl⟩ x5
 refine zn ?_
 have hl3:=M.a1p (M.u8 44) s
 refine Js.seq<|zS<|Qm rfl<|Qm rfl<|Qz rfl<|Ql rfl rfl<|JL.nil ?_
 refine zi (λh6 h6'=>?_) λh6 h6'=>?_
 ·obtain⟨ye7,hye7⟩:∃ x,(M.split (M.u8 44) s)[k]?=some x:=⟨_,List.getElem?_eq_getElem (by omega)⟩
  have hY:(M.split (M.u8 44) s)[k]?=some ye7:=hye7
  have hw9:=M.a1f 44 s ye7 (List.mem_of_getElem? hY)
  have hy8:=hye7
  obtain⟨b8,o8,he8,hc8⟩:=a0o (Ty.mono _ h4 x5.vis) hy8
  refine Js.skip<|Js.seq<|Js.block<|zS<|Qm rfl<|Qm rfl<|Qq (a0a el_31 rfl rfl (by omega) (by omega) he8)<|QC hc8 rfl<|zv rfl (λw hw=>zq8 ye7)<|Qm rfl<|Qx rfl rfl<|Qx rfl rfl<|Qa rfl<|Qa rfl ?_
  refine zJ<|zS<|Qm rfl<|Qt rfl<|JL.nil ?_
  refine zi (λh9 h9'=>?_) λh9 h9'=>?_
  ·have hE:=M.b6z (M.numsOk_no hY (by simpa using h9))
   have hq0:[]=(M.nums s).1:=by first|(rw[hE];done)
   have hq1:false=(M.nums s).2:=by first|(rw[hE];done)
   refine zS<|Qa rfl<|Qa rfl<|JL.nil ?_
   exact zro (x3.trans x5)
  have hn9:(M.num ye7).2=true:=by simpa using h9
  refine Js.skip<|Js.region<|Qm rfl<|Qm rfl<|zbs λb10=>?_
  refine JL.e (a0g (i:=1) (n':=(out++[((M.num ye7).1)]).length) (vs':=ints_ (out++[((M.num ye7).1)])) el_26 rfl rfl rfl rfl (a0k (i:=0) a1h rfl rfl) (by omega) (by omega) ln2_ (by simp[ints_])) ?_
  rintro v12 _ _ ⟨⟨g13,rfl⟩,rfl⟩ _
  refine JL.fact (row_form' (i:=1) rfl) (λhf14=>?_)
  obtain⟨A14,c14,rfl,bl14,bh14⟩:=hf14
  refine znl ?_
  refine Qa rfl<|JL.nil<|Js.blockEnd<|Js.region<|Qm rfl<|Qp rfl rfl<|Qa rfl<|JL.nil ?_
  refine zd [1] rfl λu15 x15=>?_
  exact zag ⟨k + 1,out++[((M.num ye7).1)],_,_,_,rfl,rfl,by exact M.nums_step hO hY,by exact M.b7m hK hY hn9,zt,by simp[hl],zu,zu,rfl⟩ (x5.trans x15)
 have hE:=M.nums_end hK hO (by have h9:=h6';exact Int.ofNat_le.1 h9)
 refine zx ?_
 have hq0:out=(M.nums s).1:=by first|(rw[hE];done)
 have hq1:true=(M.nums s).2:=by first|(rw[hE];done)
 refine zS<|Qm rfl<|Qa rfl<|Qa rfl<|JL.nil ?_
 exact zro (x3.trans x5)
theorem zq28(list:List (List UInt8)){v_list:Value}(t:List UInt8){w:World}(h_list:(Ty.strs 9 list).ok w v_list)(r0:list.length<=4194304:=by exact om_):RetV Tryz.prog 210 [v_list,.string (sB t)] w (.int .i64 (M.idx list t)):=by
 revert v_list;apply opn
 intro A1 c1 h1 bl1 bh1
 have h_list:=h1
 refine enter @Tryz.func210 @Tryz.ntmps210 rfl rfl ?_
 refine zent ?_
 refine zS<|Qa rfl<|zJ<|zS<|Qa rfl<|JL.nil<|Js.block ?_
 refine zl [0,1] (λF U l os u m=>∃ (k:Nat),l=F [(5,.int .i64 (k:Int))]/\os=U []/\(k<=list.length)/\(M.Nix list t k)/\m=list.length - k) ⟨0,rfl,rfl,zt,by exact M.Nix.zero _ _,rfl⟩ ?_
 rintro _ _ u2 _ ⟨k,rfl,rfl,hk,hN,rfl⟩ x2
 refine zn ?_
 refine Js.seq<|zS<|Qm rfl<|Qm rfl<|Qz rfl<|Ql rfl rfl<|JL.nil ?_
 refine zi (λh3 h3'=>?_) λh3 h3'=>?_
 ·obtain⟨ye4,hye4⟩:∃ x,list[k]?=some x:=⟨_,List.getElem?_eq_getElem (by omega)⟩
  have hy5:=hye4
  obtain⟨b5,o5,he5,hc5⟩:=a0o (Ty.mono _ h1 x2.vis) hy5
  refine Js.skip<|Js.seq<|Js.block<|zS<|Qm rfl<|Qm rfl<|Qq (a0a el_31 rfl rfl (by omega) (by omega) he5)<|QC hc5 rfl<|Qm rfl<|Qq (a0w und_9 rfl rfl)<|JL.nil ?_
  refine zi (λh6 h6'=>?_) λh6 h6'=>?_
  ·have hE:=hN.hit hye4 (by simpa using h6)
   refine zS<|Qm rfl<|Qa rfl<|JL.nil ?_
   refine zR x2 ?_
   rw[hE];rfl
  have hN2:=hN.step hye4 (by simpa using h6)
  refine Js.skip<|Js.blockEnd<|Js.region<|Qm rfl<|Qp rfl rfl<|Qa rfl<|JL.nil ?_
  exact zag ⟨k + 1,rfl,rfl,zt,by exact hN2,rfl⟩ x2
 have hE:=hN.miss (by have:=h3';omega)
 refine zx ?_
 refine zS<|Qa rfl<|JL.nil ?_
 refine zR x2 ?_
 rw[hE];rfl
theorem zq156(s:List UInt8){w:World}(r0:s.length<=4000000:=by exact om_):Ret Tryz.prog 200 [.string (sB s)] w (Ty.tup [Ty.strs 9 (M.wds s),Ty.ints 2 (M.pls s)]):=by
 refine enter @Tryz.func200 @Tryz.ntmps200 rfl rfl ?_
 refine zent ?_
 refine zS<|Qa rfl<|Qa rfl<|zN<|zbs λb1=>?_
 refine Qa rfl<|zN<|zbs λb3=>?_
 refine Qa rfl<|zJ<|zS<|Qa rfl<|JL.nil<|Js.block ?_
 refine zl [0] (λF U l os u m=>∃ (i:Nat) (ps:List Int) (ws:List (List UInt8)) (A5_4:Option Addr) (c5_4:Nat) (g5_4:List Nat) (A5_5:Option Addr) (c5_5:Nat) (g5_5:List Nat),l=F [(4,.slice A5_4 ws.length c5_4),(5,.slice A5_5 ps.length c5_5),(6,.int .i64 (i:Int))]/\os=U [some (rowO 2 1 (.slice A5_5 ps.length c5_5) ps.length (ints_ ps) g5_5),some (rowO 9 1 (.slice A5_4 ws.length c5_4) ws.length (txs_ ws) g5_4)]/\(M.PrtI s i ws ps)/\(i<=s.length)/\(ws.length<=c5_4)/\(c5_4<=9223372036854775807)/\(ps.length<=c5_5)/\(c5_5<=9223372036854775807)/\m=s.length - i) ⟨0,[],[],_,_,_,_,_,_,rfl,rfl,by exact M.PrtI.zero s,zt,zu,zu,zu,zu,rfl⟩ ?_
 rintro _ _ u5 _ ⟨i,ps,ws,A5_4,c5_4,g5_4,A5_5,c5_5,g5_5,rfl,rfl,hP,hi,f5_2,f5_3,f5_4,f5_5,rfl⟩ x5
 refine zn ?_
 obtain⟨l1,l2⟩:=hP.len
 refine Js.seq<|zS<|Qm rfl<|Qm rfl<|Qq (a0t und_9 rfl)<|Ql rfl rfl<|JL.nil ?_
 refine zi (λh6 h6'=>?_) λh6 h6'=>?_
 ·have hbt7:=M.a3b s i
  refine Js.skip<|Js.block<|Js.seq<|zS<|Qm rfl<|Qm rfl<|Qq (a1w (i:=i) und_9 rfl rfl (by omega))<|Qe rfl rfl<|JL.nil ?_
  refine zi (λh8 h8'=>?_) λh8 h8'=>?_
  ·have hP2:=hP.blank (by omega) (by simpa using h8)
   refine zS<|Qm rfl<|Qp rfl rfl<|Qa rfl<|JL.nil ?_
   refine zx ?_
   exact zag ⟨i + 1,ps,ws,_,_,_,_,_,_,rfl,rfl,by exact hP2,zt,zu,zu,zu,zu,rfl⟩ x5
  have hb0:¬ M.bat s i=32:=by simpa using h8
  refine Js.skip<|zS<|Qm rfl<|Qa rfl<|zJ<|Js.block ?_
  refine zl [0,4,5,6] (λF U l os u m=>∃ (k:Nat),l=F [(7,.int .i64 (k:Int))]/\os=U []/\(M.WrdI s i k)/\m=s.length - k) ⟨i,rfl,rfl,by exact M.WrdI.zero hi,rfl⟩ ?_
  rintro _ _ u9 _ ⟨k,rfl,rfl,hW,rfl⟩ x9
  refine zn ?_
  have hW1:=hW.l
  have hW3:=hW.u
  have hbt10:=M.a3b s k
  refine Js.seq<|zS<|Qm rfl<|Qm rfl<|Qq (a0t und_9 rfl)<|Ql rfl rfl<|Qm rfl<|zg (Gd.t1 rfl rfl rfl) (λhc=>a0e rfl)<|zg (Gd.t1 rfl rfl rfl) (λhc=>a0e rfl)<|zg (Gd.t1 rfl rfl rfl) (λhc=>a1w (i:=k) und_9 (gh hc rfl) (gh hc rfl) (by first|have hc9:=hc;(try simp only[decide_eq_true_eq] at hc9);omega|(have h9:=List.length_pos_iff.2 (by simpa using hc);omega)|(have h9:=hc;simp at h9;omega))) ?_
  refine zg (Gd.t1 rfl rfl rfl) (λhc=>p_neq (gh hc rfl) rfl)<|Qq (a0d rfl rfl rfl)<|JL.nil ?_
  refine zi (λh11 h11'=>?_) λh11 h11'=>?_
  ·have hb1:k < s.length/\¬ M.bat s k=32:=by have h9:=h11;simp at h9;exact h9
   have hW2:=hW.step hb1.1 hb1.2
   refine Js.skip<|Js.block<|Js.region<|Qm rfl<|Qp rfl rfl<|Qa rfl<|JL.nil<|Js.blockEnd ?_
   exact zag ⟨k + 1,rfl,rfl,by exact hW2,rfl⟩ x9
  have hb2:k=s.length\/k < s.length/\M.bat s k=32:=by have h9:=h11;simp at h9;have:=hW.u;by_cases h8:k < s.length;exact .inr ⟨h8,h9 h8⟩;exact .inl (by omega)
  have hik:i < k:=by have:=hW.l;rcases Nat.lt_or_ge i k with h8|h8;exact h8;(have h7:k=i:=by omega);subst h7;rcases hb2 with h9|⟨_,h9⟩;omega;exact absurd h9 hb0
  have hP2:=hP.word hW hik hb2
  have hW1:=hW.l
  have hW3:=hW.u
  refine zx ?_
  refine zS<|Qm rfl<|Qm rfl<|Qm rfl<|Qm rfl<|Qq (p_midS (i:=i) (j:=k) und_9 rfl rfl rfl (by omega) (by omega))<|zbs λb12=>?_
  refine JL.e (a0g (i:=2) (n':=(ws++[(s.drop i).take (k - i)]).length) (vs':=txs_ (ws++[(s.drop i).take (k - i)])) el_31 rfl rfl rfl rfl (a0k (i:=0) a9z rfl rfl) (by omega) (by omega) ln2_ (by first|rfl|(simp[txs_];done))) ?_
  rintro v14 _ _ ⟨⟨g15,rfl⟩,rfl⟩ _
  refine JL.fact (row_form' (i:=2) rfl) (λhf16=>?_)
  obtain⟨A16,c16,rfl,bl16,bh16⟩:=hf16
  refine znl ?_
  refine Qa rfl<|zN<|Qm rfl<|Qm rfl<|zbs λb17=>?_
  refine JL.e (a0g (i:=2) (n':=(ps++[(i:Int)]).length) (vs':=ints_ (ps++[(i:Int)])) el_26 rfl rfl rfl rfl (a0k (i:=0) a1h rfl rfl) (by omega) (by omega) ln2_ (by simp[ints_])) ?_
  rintro v19 _ _ ⟨⟨g20,rfl⟩,rfl⟩ _
  refine JL.fact (row_form' (i:=2) rfl) (λhf21=>?_)
  obtain⟨A21,c21,rfl,bl21,bh21⟩:=hf21
  refine znl ?_
  refine Qa rfl<|zG<|Qm rfl<|Qa rfl<|JL.nil<|Js.blockEnd ?_
  refine zd [2,2] rfl λu22 x22=>?_
  exact zag ⟨k,ps++[(i:Int)],ws++[(s.drop i).take (k - i)],_,_,_,_,_,_,rfl,rfl,by exact hP2,zt,zu,zu,zu,zu,rfl⟩ ((x5.trans x9).trans x22)
 obtain⟨hE1,hE2⟩:=hP.done (by have:=h6';omega)
 have hpl:=M.b2g s
 have hwl:=M.a7p s
 refine zx ?_
 have hq0:ws=(M.wds s):=by first|exact hE1|exact hE2
 have hq1:ps=(M.pls s):=by first|exact hE1|exact hE2
 refine zS<|Qm rfl<|Qm rfl<|Qa rfl<|Qa rfl<|JL.nil ?_
 exact zro x5 (g:=by exact(a2o (gvc (b3t (ys:=ws) po_ (by assumption) (by rfl)) (gvc gv_ gvn))))
theorem zq157(s:List UInt8){w:World}(r0:s.length<=4194304:=by exact om_):RetV Tryz.prog 209 [.string (sB s)] w (.tuple #[.string (sB ((M.cutS s [61]).1)),.string (sB ((M.cutS s [61]).2.1)),.bool ((M.cutS s [61]).2.2)]):=by
 refine enter @Tryz.func209 @Tryz.ntmps209 rfl rfl ?_
 refine zent ?_
 refine zS<|Qa rfl<|Qa rfl<|Qa rfl<|zJ<|zS<|Qa rfl<|JL.nil<|Js.block ?_
 refine zl [0] (λF U l os u m=>∃ (k:Nat),l=F [(5,.int .i64 (k:Int))]/\os=U []/\(k<=s.length)/\(∀ i,i < k->(s.drop i).take ([61]:List UInt8).length≠[61])/\m=s.length - k) ⟨0,rfl,rfl,zt,by exact λi h=>absurd h (by omega),rfl⟩ ?_
 rintro _ _ u1 _ ⟨k,rfl,rfl,hk,hn,rfl⟩ x1
 refine zn ?_
 refine Js.seq<|zS<|Qm rfl<|Qm rfl<|Qq (a0t und_9 rfl)<|Ql rfl rfl<|JL.nil ?_
 refine zi (λh2 h2'=>?_) λh2 h2'=>?_
 ·have hks:k + 1<=s.length:=by have:=h2';omega
  have hbt3:=M.a3b s k
  refine Js.skip<|Js.seq<|Js.block<|zS<|Qm rfl<|Qm rfl<|Qq (a1w (i:=k) und_9 rfl rfl (by omega))<|Qe rfl rfl<|JL.nil ?_
  refine zi (λh4 h4'=>?_) λh4 h4'=>?_
  ·have hE:=M.a6v (sep:=[61]) hks (M.take1 hks (by simpa using h4)) hn
   refine Js.seq ?_
   refine zdr [] ?_
   refine jM 0 rfl rfl ?_
   refine jM 1 rfl rfl ?_
   refine JH.p 2 rfl (a4o (i:=k) und_9 rfl rfl (by omega)) ?_
   refine jM 3 rfl rfl ?_
   refine jM 4 rfl rfl ?_
   refine JH.p 5 rfl (p_add rfl rfl (IntWalk.i64_in _ (by omega))) ?_
   refine JH.p 6 rfl (a4m (i:=k + 1) und_9 rfl rfl (by omega)) ?_
   refine jA 7 rfl rfl ?_
   refine jA 8 rfl rfl ?_
   refine jA 9 rfl rfl ?_
   refine yd ?_
   refine zR x1 ?_
   rw[hE];rfl
  have hn2:=M.b4f hn (M.take1n hks (by simpa using h4))
  refine Js.skip<|Js.blockEnd<|Js.region<|Qm rfl<|Qp rfl rfl<|Qa rfl<|JL.nil ?_
  exact zag ⟨k + 1,rfl,rfl,zt,by exact hn2,rfl⟩ x1
 have hE:=M.cutS_no (sep:=[61]) (k:=k) (by have:=h2';simp only[List.length_cons,List.length_nil];omega) hn
 refine zx ?_
 refine zS<|Qm rfl<|Qa rfl<|Qa rfl<|Qa rfl<|JL.nil ?_
 refine zR x1 ?_
 rw[hE];rfl
theorem zq158(wd:List UInt8){w:World}(r0:wd.length<=4194304:=by exact om_):RetV Tryz.prog 201 [.string (sB wd)] w (.tuple #[.int .i64 ((M.wrd wd).1),.int .i64 ((M.wrd wd).2.1),.int .i64 ((M.wrd wd).2.2)]):=by
 have hcl:=M.a3c wd [61]
 have hl9:M.fieldNames.length=9:=rfl
 have hl4:M.capNames.length=4:=rfl
 have hl3:M.slamNames.length=3:=rfl
 have hkb:=M.a5v M.fieldNames (M.cutS wd [61]).1
 have hsb:=M.a5v M.slamNames (M.cutS wd [61]).2.1
 have hpb:=M.a5v M.capNames (M.cutS wd [61]).2.1
 obtain⟨hnb1,hnb2⟩:=M.num_bd (M.cutS wd [61]).2.1
 refine enter @Tryz.func201 @Tryz.ntmps201 rfl rfl ?_
 refine zent ?_
 refine zS<|Qa rfl<|Qa rfl<|Qa rfl<|zN<|Qm rfl<|zv rfl (λw hw=>zq157 wd)<|Qm rfl<|Qx rfl rfl<|Qx rfl rfl<|Qx rfl rfl<|Qa rfl<|Qa rfl<|Qa rfl ?_
 refine zN<|zp rfl (λw hw=>zq44) ?_
 intro u1 x1 A2 c2 h2 bl2 bh2
 refine Qm rfl<|zv rfl (λw hw=>zq28 M.fieldNames ((M.cutS wd [61]).1) (ok_ hw))<|Qa rfl<|zJ<|zS<|Qm rfl<|Ql rfl rfl<|Qm rfl<|zg (Gd.f1 rfl rfl rfl) (λhc=>a0e rfl)<|zg (Gd.f1 rfl rfl rfl) (λhc=>a0e rfl)<|zgv (Gd.f1 rfl rfl rfl) (λhc=>(a1o (gh hc rfl) rfl rfl)) (λhc=>(λw hw=>zq3 (M.idx M.fieldNames ((M.cutS wd [61]).1)) 2 6)) ?_
 refine zg (Gd.f1 rfl rfl rfl) (λhc=>p_eqlB und_4 (gh hc rfl) (gh hc rfl))<|Qq (a0j rfl rfl rfl)<|JL.nil ?_
 refine zi (λh3 h3'=>?_) λh3 h3'=>?_
 ·have hE:=M.wrd_1 (w:=wd) (by have h9:=h3;simp only[Bool.or_eq_true,decide_eq_true_eq,beq_iff_eq] at h9;exact h9)
  refine zS<|Qa rfl<|Qa rfl<|Qa rfl<|JL.nil ?_
  refine zR x1 ?_
  rw[hE];rfl
 have h1:¬ ((M.idx M.fieldNames (M.cutS wd [61]).1) < 0\/(M.cutS wd [61]).2.2=M.betw (M.idx M.fieldNames (M.cutS wd [61]).1) 2 6):=by have h9:=h3;simp only[Bool.or_eq_false_iff,decide_eq_false_iff_not,beq_eq_false_iff_ne] at h9;rintro(h8|h8);exact h9.1 h8;exact h9.2 h8
 refine Js.skip<|Js.seq<|zS<|Qm rfl<|JL.nil<|Js.block<|Js.seq<|zS<|Qe rfl rfl<|Qa rfl<|JL.nil ?_
 refine zi (λh4 h4'=>?_) λh4 h4'=>?_
 ·refine Js.skip ?_
  refine Js.condT rfl h4 ?_
  refine zS<|Qm rfl<|zv rfl (λw hw=>zq8 ((M.cutS wd [61]).2.1))<|Qm rfl<|Qx rfl rfl<|Qx rfl rfl<|Qa rfl<|Qa rfl<|zJ<|zS<|Qm rfl<|Qt rfl<|JL.nil ?_
  refine zi (λh5 h5'=>?_) λh5 h5'=>?_
  ·have hE:=M.wrd_3 h1 (by omega) (by simpa using h5)
   refine zS<|Qm rfl<|Qa rfl<|Qa rfl<|Qa rfl<|JL.nil ?_
   refine zR x1 ?_
   rw[hE];rfl
  have hn:(M.num (M.cutS wd [61]).2.1).2=true:=by simpa using h5
  refine Js.skip<|Js.seq<|zS<|Qm rfl<|Qe rfl rfl<|Qm rfl<|zT (Gd.t1 rfl rfl rfl) (show(decide (M.idx M.fieldNames ((M.cutS wd [61]).1)=0))=true by first|exact h4|(rw[h4];rfl)|simp[h4])<|Qm rfl<|zT (Gd.t1 rfl rfl rfl) (show(decide (M.idx M.fieldNames ((M.cutS wd [61]).1)=0))=true by first|exact h4|(rw[h4];rfl)|simp[h4])<|zv rfl (λw hw=>zq3 ((M.num ((M.cutS wd [61]).2.1)).1) 2 8)<|zT (Gd.t1 rfl rfl rfl) (show(decide (M.idx M.fieldNames ((M.cutS wd [61]).1)=0))=true by first|exact h4|(rw[h4];rfl)|simp[h4])<|Qt rfl<|Qq (a3k rfl rfl rfl)<|Qm rfl ?_
  refine zg (Gd.f1 rfl rfl rfl) (λhc=>a0e rfl)<|zg (Gd.f1 rfl rfl rfl) (λhc=>p_eql (gh hc rfl) rfl)<|zg (Gd.f1 rfl rfl rfl) (λhc=>a0e (gh hc rfl))<|zg (Gd.t2 rfl rfl rfl) (λhc=>a0e rfl)<|zgv (Gd.t2 rfl rfl rfl) (λhc=>(a1o (gh hc rfl) rfl rfl)) (λhc=>(λw hw=>zq3 ((M.num ((M.cutS wd [61]).2.1)).1) 1 6)) ?_
  refine zg (Gd.t2 rfl rfl rfl) (λhc=>p_not (gh hc rfl))<|zg (Gd.f1 rfl rfl rfl) (λhc=>a0d (gh hc rfl) (gvl rfl hc) rfl)<|Qq (a0j rfl rfl rfl)<|JL.nil ?_
  refine zi (λh6 h6'=>?_) λh6 h6'=>?_
  ·have hE:=M.wrd_4 h1 (by omega) hn (by have h9:=h6;simp only[Bool.or_eq_true,Bool.and_eq_true,decide_eq_true_eq,Bool.not_eq_true'] at h9;rcases h9 with h9|h9 <;> first|exact .inl h9|exact .inr h9|exact absurd h9.2 (by decide))
   refine zS<|Qm rfl<|Qa rfl<|Qa rfl<|Qa rfl<|JL.nil ?_
   refine zR x1 ?_
   rw[hE];rfl
  have hE:=M.wrd_0 h1 (by omega) hn (by have h9:=h6;intro h8;have h7:=Bool.eq_false_iff.1 h9;apply h7;simp only[Bool.or_eq_true,Bool.and_eq_true,decide_eq_true_eq,Bool.not_eq_true'];rcases h8 with h8|h8 <;> first|exact .inl h8|exact .inr h8|exact absurd h8.1 (by omega))
  refine Js.skip<|zS<|Qm rfl<|Qm rfl<|Qa rfl<|Qa rfl<|Qa rfl<|JL.nil ?_
  refine zR x1 ?_
  rw[hE];rfl
 refine Js.region<|Qe rfl rfl<|Qa rfl<|JL.nil ?_
 refine zi (λh7 h7'=>?_) λh7 h7'=>?_
 ·refine zS<|Qm rfl<|zv rfl (λw hw=>zq8 ((M.cutS wd [61]).2.1))<|Qm rfl<|Qx rfl rfl<|Qx rfl rfl<|Qa rfl<|Qa rfl<|zJ<|zS<|Qm rfl<|Qt rfl<|JL.nil ?_
  refine zi (λh8 h8'=>?_) λh8 h8'=>?_
  ·have hE:=M.wrd_3 h1 (by omega) (by simpa using h8)
   refine zS<|Qm rfl<|Qa rfl<|Qa rfl<|Qa rfl<|JL.nil ?_
   refine zR x1 ?_
   rw[hE];rfl
  have hn:(M.num (M.cutS wd [61]).2.1).2=true:=by simpa using h8
  refine Js.skip<|Js.seq<|zS<|Qm rfl<|Qe rfl rfl<|Qm rfl ?_
  refine JL.g (v:=undef) (Gd.t1 rfl rfl rfl) (λhc=>absurd hc (by first|(rw[h4];simp;done)|simp[h4])) ?_
  refine JL.g (v:=.bool false) (Gd.t1 rfl rfl rfl) (λhc=>absurd hc (by first|(rw[h4];simp;done)|simp[h4])) ?_
  refine JL.g (v:=.bool false) (Gd.t1 rfl rfl rfl) (λhc=>absurd hc (by first|(rw[h4];simp;done)|simp[h4])) ?_
  refine Qq (a0d rfl rfl rfl)<|Qm rfl<|zg (Gd.f1 rfl rfl rfl) (λhc=>a0e rfl)<|zg (Gd.f1 rfl rfl rfl) (λhc=>p_eql (gh hc rfl) rfl)<|zg (Gd.f1 rfl rfl rfl) (λhc=>a0e (gh hc rfl))<|zg (Gd.t2 rfl rfl rfl) (λhc=>a0e rfl)<|zgv (Gd.t2 rfl rfl rfl) (λhc=>(a1o (gh hc rfl) rfl rfl)) (λhc=>(λw hw=>zq3 ((M.num ((M.cutS wd [61]).2.1)).1) 1 6)) ?_
  refine zg (Gd.t2 rfl rfl rfl) (λhc=>p_not (gh hc rfl))<|zg (Gd.f1 rfl rfl rfl) (λhc=>a0d (gh hc rfl) (gvl rfl hc) rfl)<|Qq (a0j rfl rfl rfl)<|JL.nil ?_
  refine zi (λh9 h9'=>?_) λh9 h9'=>?_
  ·have hE:=M.wrd_4 h1 (by omega) hn (by have h9:=h9;simp only[Bool.or_eq_true,Bool.and_eq_true,decide_eq_true_eq,Bool.not_eq_true'] at h9;rcases h9 with h9|h9 <;> first|exact .inl h9|exact .inr h9|exact absurd h9.2 (by decide))
   refine zS<|Qm rfl<|Qa rfl<|Qa rfl<|Qa rfl<|JL.nil ?_
   refine zR x1 ?_
   rw[hE];rfl
  have hE:=M.wrd_0 h1 (by omega) hn (by have h9:=h9;intro h8;have h7:=Bool.eq_false_iff.1 h9;apply h7;simp only[Bool.or_eq_true,Bool.and_eq_true,decide_eq_true_eq,Bool.not_eq_true'];rcases h8 with h8|h8 <;> first|exact .inl h8|exact .inr h8|exact absurd h8.1 (by omega))
  refine Js.skip<|zS<|Qm rfl<|Qm rfl<|Qa rfl<|Qa rfl<|Qa rfl<|JL.nil ?_
  refine zR x1 ?_
  rw[hE];rfl
 refine Js.seq<|zS<|Qe rfl rfl<|Qa rfl<|JL.nil ?_
 refine zi (λh10 h10'=>?_) λh10 h10'=>?_
 ·refine Js.skip ?_
  refine Js.condT rfl h10 ?_
  refine zS<|zp rfl (λw hw=>zq43) ?_
  intro u11 x11 A12 c12 h12 bl12 bh12
  refine Qa rfl<|zJ<|zS<|Qm rfl<|Qe rfl rfl<|JL.nil ?_
  refine zi (λh13 h13'=>?_) λh13 h13'=>?_
  ·refine Js.region<|zp rfl (λw hw=>zq27) ?_
   intro u14 x14 A15 c15 h15 bl15 bh15
   refine Qa rfl<|zN<|Qm rfl<|Qm rfl<|zv rfl (λw hw=>zq28 M.slamNames ((M.cutS wd [61]).2.1) (ok_ hw))<|Qa rfl<|zJ<|zS<|Qm rfl<|Ql rfl rfl<|JL.nil ?_
   refine zi (λh16 h16'=>?_) λh16 h16'=>?_
   ·have hE:=M.wrd_5 (w:=wd) h1 (by omega) (by omega) (by first|rw[if_pos (by omega)]|rw[if_neg (by omega)]) (by have:=h16';assumption)
    refine zS<|Qm rfl<|Qa rfl<|Qa rfl<|Qa rfl<|JL.nil ?_
    refine zR ((x1.trans x11).trans x14) ?_
    rw[hE];rfl
   have hE:=M.wrd_6 (w:=wd) h1 (by omega) (by omega) (by first|rw[if_pos (by omega)]|rw[if_neg (by omega)]) (by have:=h16';omega)
   refine Js.skip<|zS<|Qm rfl<|Qm rfl<|Qa rfl<|Qa rfl<|Qa rfl<|JL.nil ?_
   refine zR ((x1.trans x11).trans x14) ?_
   rw[hE];rfl
  refine Js.skip<|zS<|Qm rfl<|Qm rfl<|zv rfl (λw hw=>zq28 M.capNames ((M.cutS wd [61]).2.1) (ok_ hw))<|Qa rfl<|zJ<|zS<|Qm rfl<|Ql rfl rfl<|JL.nil ?_
  refine zi (λh17 h17'=>?_) λh17 h17'=>?_
  ·have hE:=M.wrd_5 (w:=wd) h1 (by omega) (by omega) (by first|rw[if_pos (by omega)]|rw[if_neg (by omega)]) (by have:=h17';assumption)
   refine zS<|Qm rfl<|Qa rfl<|Qa rfl<|Qa rfl<|JL.nil ?_
   refine zR (x1.trans x11) ?_
   rw[hE];rfl
  have hE:=M.wrd_6 (w:=wd) h1 (by omega) (by omega) (by first|rw[if_pos (by omega)]|rw[if_neg (by omega)]) (by have:=h17';omega)
  refine Js.skip<|zS<|Qm rfl<|Qm rfl<|Qa rfl<|Qa rfl<|Qa rfl<|JL.nil ?_
  refine zR (x1.trans x11) ?_
  rw[hE];rfl
 refine Js.region<|Qe rfl rfl<|Qa rfl<|JL.nil ?_
 refine zi (λh18 h18'=>?_) λh18 h18'=>?_
 ·refine zS<|zp rfl (λw hw=>zq43) ?_
  intro u19 x19 A20 c20 h20 bl20 bh20
  refine Qa rfl<|zJ<|zS<|Qm rfl<|Qe rfl rfl<|JL.nil ?_
  refine Js.condT rfl h18 ?_
  refine Js.region<|zp rfl (λw hw=>zq27) ?_
  intro u21 x21 A22 c22 h22 bl22 bh22
  refine Qa rfl<|zN<|Qm rfl<|Qm rfl<|zv rfl (λw hw=>zq28 M.slamNames ((M.cutS wd [61]).2.1) (ok_ hw))<|Qa rfl<|zJ<|zS<|Qm rfl<|Ql rfl rfl<|JL.nil ?_
  refine zi (λh23 h23'=>?_) λh23 h23'=>?_
  ·have hE:=M.wrd_5 (w:=wd) h1 (by omega) (by omega) (by first|rw[if_pos (by omega)]|rw[if_neg (by omega)]) (by have:=h23';assumption)
   refine zS<|Qm rfl<|Qa rfl<|Qa rfl<|Qa rfl<|JL.nil ?_
   refine zR ((x1.trans x19).trans x21) ?_
   rw[hE];rfl
  have hE:=M.wrd_6 (w:=wd) h1 (by omega) (by omega) (by first|rw[if_pos (by omega)]|rw[if_neg (by omega)]) (by have:=h23';omega)
  refine Js.skip<|zS<|Qm rfl<|Qm rfl<|Qa rfl<|Qa rfl<|Qa rfl<|JL.nil ?_
  refine zR ((x1.trans x19).trans x21) ?_
  rw[hE];rfl
 have hE:=M.wrd_7 h1 (by omega) (by omega)
 refine Js.skip<|Js.blockEnd<|zS<|Qm rfl<|Qa rfl<|Qa rfl<|Qa rfl<|JL.nil ?_
 refine zR x1 ?_
 rw[hE];rfl
theorem zq87(v:List Int){v_v:Value}{w:World}(h_v:(Ty.ints 2 v).ok w v_v)(r0:v.length=9:=by exact om_):Ret Tryz.prog 202 [v_v] w (Ty.agg (cRules (M.rulV v))):=by
 revert v_v;apply opn
 intro A1 c1 h1 bl1 bh1
 have h_v:=h1
 refine enter @Tryz.func202 @Tryz.ntmps202 rfl rfl ?_
 refine zent ?_
 refine zS<|za zeh λb2=>zJ ?_
 refine zdr [33] ?_
 refine jM 0 rfl rfl ?_
 obtain⟨b3,o3,he3,hc3⟩:=a0l h1 (i:=0) (by omega)
 refine jI 1 el_26 rfl rfl rfl he3 ?_
 refine jW 2 ty_2 rfl rfl hc3.vis ?_
 refine jM 3 rfl rfl ?_
 obtain⟨b4,o4,he4,hc4⟩:=a0l h1 (i:=1) (by omega)
 refine jI 4 el_26 rfl rfl rfl he4 ?_
 refine jW 5 ty_2 rfl rfl hc4.vis ?_
 refine jM 6 rfl rfl ?_
 obtain⟨b5,o5,he5,hc5⟩:=a0l h1 (i:=2) (by omega)
 refine jI 7 el_26 rfl rfl rfl he5 ?_
 refine jW 8 ty_2 rfl rfl hc5.vis ?_
 refine JH.p 9 rfl (p_eql rfl rfl) ?_
 refine jM 10 rfl rfl ?_
 obtain⟨b6,o6,he6,hc6⟩:=a0l h1 (i:=3) (by omega)
 refine jI 11 el_26 rfl rfl rfl he6 ?_
 refine jW 12 ty_2 rfl rfl hc6.vis ?_
 refine JH.p 13 rfl (p_eql rfl rfl) ?_
 refine jM 14 rfl rfl ?_
 obtain⟨b7,o7,he7,hc7⟩:=a0l h1 (i:=4) (by omega)
 refine jI 15 el_26 rfl rfl rfl he7 ?_
 refine jW 16 ty_2 rfl rfl hc7.vis ?_
 refine JH.p 17 rfl (p_eql rfl rfl) ?_
 refine jM 18 rfl rfl ?_
 obtain⟨b8,o8,he8,hc8⟩:=a0l h1 (i:=5) (by omega)
 refine jI 19 el_26 rfl rfl rfl he8 ?_
 refine jW 20 ty_2 rfl rfl hc8.vis ?_
 refine JH.p 21 rfl (p_eql rfl rfl) ?_
 refine jM 22 rfl rfl ?_
 obtain⟨b9,o9,he9,hc9⟩:=a0l h1 (i:=6) (by omega)
 refine jI 23 el_26 rfl rfl rfl he9 ?_
 refine jW 24 ty_2 rfl rfl hc9.vis ?_
 refine JH.p 25 rfl (p_eql rfl rfl) ?_
 refine jM 26 rfl rfl ?_
 obtain⟨b10,o10,he10,hc10⟩:=a0l h1 (i:=7) (by omega)
 refine jI 27 el_26 rfl rfl rfl he10 ?_
 refine jW 28 ty_2 rfl rfl hc10.vis ?_
 refine jM 29 rfl rfl ?_
 obtain⟨b11,o11,he11,hc11⟩:=a0l h1 (i:=8) (by omega)
 refine jI 30 el_26 rfl rfl rfl he11 ?_
 refine jW 31 ty_2 rfl rfl hc11.vis ?_
 refine JH.p 32 rfl (q_bld) ?_
 refine y1 33 ?_
 refine yst rfl rfl rfl ?_
 refine yd ?_
 have hq0:(M.nth v 0)=(M.rulV v).pits:=by first|rfl|(simp;done)|omega
 have hq1:(M.nth v 1)=(M.rulV v).seeds:=by first|rfl|(simp;done)|omega
 have hq2:(decide (M.nth v 2=1))=(M.rulV v).stores:=by first|rfl|(simp;done)|omega
 have hq3:(decide (M.nth v 3=1))=(M.rulV v).skip:=by first|rfl|(simp;done)|omega
 have hq4:(decide (M.nth v 4=1))=(M.rulV v).relay:=by first|rfl|(simp;done)|omega
 have hq5:(decide (M.nth v 5=1))=(M.rulV v).feed:=by first|rfl|(simp;done)|omega
 have hq6:(decide (M.nth v 6=1))=(M.rulV v).again:=by first|rfl|(simp;done)|omega
 have hq7:(M.nth v 7)=(M.rulV v).capture:=by first|rfl|(simp;done)|omega
 have hq8:(M.nth v 8)=(M.rulV v).slam:=by first|rfl|(simp;done)|omega
 exact zro (Up.refl _ _)
theorem zq115(s:List UInt8){w:World}(r0:s.length<=1000000:=by exact om_):Ret Tryz.prog 185 [.string (sB s)] w (Ty.tup [Ty.agg (cRules (M.chkR s)),Ty.sl 239 3 (M.chkO s).length (lProblem (M.chkO s))]):=by
 have hwl:=M.a7p s
 have hpl:=M.b2g s
 have hl9:M.fieldNames.length=9:=rfl
 refine enter @Tryz.func185 @Tryz.ntmps185 rfl rfl ?_
 refine zent ?_
 refine zS<|za zeh λb1=>Qa rfl<|zN<|Qm rfl<|zp rfl (λw hw=>zq156 s) ?_
 intro u2 x2 A3 c3 h3 bl3 bh3 A4 c4 h4 bl4 bh4
 refine Qm rfl<|Qx rfl rfl<|Qx rfl rfl<|Qa rfl<|Qa rfl<|zN<|zmk (a0:=9) (m:=9) (by omega) (by omega) λb5=>Qa rfl<|zN<|zmkF vcbool false (a0:=9) (m:=9) (by omega) (by omega) λb6=>Qa rfl<|zN<|zbs λb7=>?_
 refine Qa rfl<|zN<|Qa rfl<|zJ<|zS<|Qa rfl<|JL.nil<|Js.block ?_
 refine zl [0,2,4,5,6,7] (λF U l os u m=>∃ (k:Nat) (v:List Int) (seen:List Bool) (again:Int) (out:List M.Prb) (A9_8:Option Addr) (c9_8:Nat) (g9_8:List Nat),l=F [(8,.slice A9_8 out.length c9_8),(9,.int .i64 again),(10,.int .i64 (k:Int))]/\os=U [some (rowO 239 3 (.slice A9_8 out.length c9_8) out.length (fltV vcProblem out) g9_8),some (rowO 4 1 (.slice (some ⟨b6,0,none⟩) 9 9) 9 (fltV vcbool seen) []),some (rowO 2 1 (.slice (some ⟨b5,0,none⟩) 9 9) 9 (ints_ v) [])]/\(M.chkN s k=⟨v,seen,again,out⟩)/\(k<=(M.wds s).length)/\(out.length<=c9_8)/\(c9_8<=9223372036854775807)/\m=(M.wds s).length - k) ⟨0,List.replicate 9 0,List.replicate 9 false,0,[],_,_,_,rfl,rfl,by rfl,zt,zu,zu,rfl⟩ ?_
 rintro _ _ u9 _ ⟨k,v,seen,again,out,A9_8,c9_8,g9_8,rfl,rfl,hC,hk,f9_2,f9_3,rfl⟩ x9
 refine zn ?_
 obtain⟨hv9,hs9,ho9⟩:=M.a5n s k
 rw[hC] at hv9 hs9 ho9
 dsimp only at hv9 hs9 ho9
 refine Js.seq<|zS<|Qm rfl<|Qm rfl<|Qz rfl<|Ql rfl rfl<|JL.nil ?_
 refine zi (λh10 h10'=>?_) λh10 h10'=>?_
 ·obtain⟨ye11,hye11⟩:∃ x,(M.wds s)[k]?=some x:=⟨_,List.getElem?_eq_getElem (by omega)⟩
  have hY:(M.wds s)[k]?=some ye11:=hye11
  have hw9:=M.wds_mem hY
  obtain⟨w1,w2,w3,w4,w5,w6⟩:=M.wrd_bd ye11
  have w7:=M.wrd_ne2 ye11
  have hy12:=hye11
  obtain⟨b12,o12,he12,hc12⟩:=a0o (Ty.mono _ h3 x9.vis) hy12
  have hy13:seen[((M.wrd ye11).1).toNat]?=some (M.blt seen (((M.wrd ye11).1).toNat)):=M.a9s len_
  refine Js.skip<|Js.seq<|Js.block<|zS<|Qm rfl<|Qm rfl<|Qq (a0a el_31 rfl rfl (by omega) (by omega) he12)<|QC hc12 rfl<|zv rfl (λw hw=>zq158 ye11)<|Qm rfl<|Qx rfl rfl<|Qx rfl rfl<|Qx rfl rfl<|Qa rfl ?_
  refine Qa rfl<|Qa rfl<|zJ<|zS<|Qm rfl<|Qd rfl rfl<|Qm rfl<|zg (Gd.t1 rfl rfl rfl) (λhc=>a0e rfl)<|zg (Gd.t1 rfl rfl rfl) (λhc=>a0e rfl)<|zg (Gd.t1 rfl rfl rfl) (λhc=>a0a b5y (gh hc rfl) (gh hc rfl) (by have hc9:=hc;(try simp only[Bool.not_eq_true',decide_eq_false_iff_not] at hc9);first|omega|(simp only[List.length_set,List.length_append,List.length_cons,List.length_nil,List.length_take,List.length_drop,List.length_replicate];omega)) (by have hc9:=hc;(try simp only[Bool.not_eq_true',decide_eq_false_iff_not] at hc9);first|omega|(simp only[List.length_set,List.length_append,List.length_cons,List.length_nil,List.length_take,List.length_drop,List.length_replicate];omega)) rfl) ?_
  refine zgq (Gd.t1 rfl rfl rfl) (λhc=>a0c ty_4.h (gh hc rfl) (λw hw=>(Mem.rowR' (i:=1) rfl (fltV_at (C:=vcbool) (λ_=>rfl) hy13) w hw) 0 _ rfl))<|Qq (a0d rfl rfl rfl)<|JL.nil ?_
  refine zi (λh14 h14'=>?_) λh14 h14'=>?_
  ·have hq:¬ (M.wrd ye11).2.2=1/\M.blt seen (M.wrd ye11).1.toNat=true:=by have h9:=h14;simp at h9;exact h9
   have hE:=M.chk_t hC hY hq.1 hq.2
   refine Js.region<|Qa rfl<|zJ<|zS<|Qm rfl<|Qd rfl rfl<|JL.nil ?_
   refine Js.condT rfl (by decide) ?_
   refine zdr [12] ?_
   refine jM 0 rfl rfl ?_
   refine jM 1 rfl rfl ?_
   refine jM 2 rfl rfl ?_
   refine jM 3 rfl rfl ?_
   obtain⟨b15,o15,he15,hc15⟩:=a0l (Ty.mono _ h4 x9.vis) (i:=k) (by omega)
   refine jI 4 el_26 rfl rfl rfl he15 ?_
   refine jW 5 ty_2 rfl rfl hc15.vis ?_
   refine jM 6 rfl rfl ?_
   refine jM 7 rfl rfl ?_
   have hy16:=hye11
   obtain⟨b16,o16,he16,hc16⟩:=a0o (Ty.mono _ h3 x9.vis) hy16
   refine jI 8 el_31 rfl rfl rfl he16 ?_
   refine jW 9 ty_9 rfl rfl hc16.vis ?_
   refine JH.p 10 rfl (q_bld) ?_
   refine y1 11 ?_
   refine ybs rfl λb17=>?_
   refine y1 12 ?_
   refine JHo.e rfl (a0g (i:=1) (n':=(out++[(M.Prb.mk 2 (M.nth (M.pls s) k) ye11)]).length) (vs':=fltV vcProblem (out++[(M.Prb.mk 2 (M.nth (M.pls s) k) ye11)])) a2z rfl rfl rfl rfl (a0k (i:=0) a2b rfl rfl) (by omega) (by omega) ln2_ (by first|rfl|exact a1l _ _ _|exact a1d _ _ _|(simp[fltV];done))) (.inr rfl) ?_
   rintro v19 _ _ ⟨⟨g20,rfl⟩,rfl⟩ _
   refine JH.fact (row_form' (i:=1) rfl) (λhf21=>?_)
   obtain⟨A21,c21,rfl,bl21,bh21⟩:=hf21
   refine znh ?_
   refine jA 13 rfl rfl ?_
   refine yd ?_
   refine Js.seq<|zS<|Qm rfl<|Qe rfl rfl<|Qm rfl<|zg (Gd.f1 rfl rfl rfl) (λhc=>a0e rfl)<|zg (Gd.f1 rfl rfl rfl) (λhc=>p_eql (gh hc rfl) rfl)<|Qq (a0j rfl rfl rfl)<|JL.nil ?_
   refine zi (λh22 h22'=>?_) λh22 h22'=>?_
   ·refine zx ?_
    refine Js.region<|Qm rfl<|Qp rfl rfl<|Qa rfl<|JL.nil ?_
    refine zd [1,1,1,1] rfl λu23 x23=>?_
    exact zag ⟨k + 1,v,seen,again,out++[(M.Prb.mk 2 (M.nth (M.pls s) k) ye11)],_,_,_,rfl,rfl,by first|exact hE|(exfalso;omega)|(exfalso;simp at hx;done),zt,zu,zu,rfl⟩ (x9.trans x23)
   have hx:=h22
   have hy24:seen[((M.wrd ye11).1).toNat]?=some (M.blt seen (((M.wrd ye11).1).toNat)):=M.a9s len_
   refine Js.skip<|zS<|Qm rfl<|Qm rfl<|Qq (a0a b5y rfl rfl len_ len_ rfl) ?_
   refine JL.s (a0i (i:=2) (xs':=fltV vcbool (seen.set (((M.wrd ye11).1).toNat) true)) ty_4.h rfl rfl rfl rfl rfl rfl (b6e (C:=vcbool) (j:=0) (λ_=>rfl) len_ (by decide)) (b2y (C:=vcbool) (y:=true) (λ_=>rfl) len_)) ?_
   rintro _ _ _ ⟨rfl,rfl⟩ _
   refine znl ?_
   refine zN<|Qm rfl<|Qm rfl<|Qm rfl<|Qq (a0a el_26 rfl rfl (by omega) (by omega) rfl) ?_
   refine JL.s (a0i (i:=3) (xs':=ints_ (M.setI v ((M.wrd ye11).1) ((M.wrd ye11).2.1))) ty_2.h rfl rfl rfl rfl rfl rfl (a0q (i:=((M.wrd ye11).1).toNat) (by omega)) (a0m (i:=((M.wrd ye11).1).toNat) (by omega))) ?_
   rintro _ _ _ ⟨rfl,rfl⟩ _
   refine znl ?_
   refine zN<|Qm rfl<|Qe rfl rfl<|JL.nil ?_
   refine zi (λh26 h26'=>?_) λh26 h26'=>?_
   ·obtain⟨b27,o27,he27,hc27⟩:=a0l (Ty.mono _ h4 x9.vis) (i:=k) (by omega)
    refine Js.region<|Qm rfl<|Qm rfl<|Qq (a0a el_26 rfl rfl (by omega) (by omega) he27)<|QC hc27 rfl<|Qa rfl<|JL.nil<|Js.blockEnd<|Js.region<|Qm rfl<|Qp rfl rfl<|Qa rfl<|JL.nil ?_
    refine zd [1,1,1,1] rfl λu28 x28=>?_
    exact zag ⟨k + 1,M.setI v ((M.wrd ye11).1) ((M.wrd ye11).2.1),seen.set (((M.wrd ye11).1).toNat) true,M.nth (M.pls s) k,out++[(M.Prb.mk 2 (M.nth (M.pls s) k) ye11)],_,_,_,rfl,rfl,by first|exact hE|(exfalso;omega)|(exfalso;simp at hx;done),zt,zu,zu,rfl⟩ (x9.trans x28)
   refine Js.skip<|Js.blockEnd<|Js.region<|Qm rfl<|Qp rfl rfl<|Qa rfl<|JL.nil ?_
   refine zd [1,1,1,1] rfl λu29 x29=>?_
   exact zag ⟨k + 1,M.setI v ((M.wrd ye11).1) ((M.wrd ye11).2.1),seen.set (((M.wrd ye11).1).toNat) true,again,out++[(M.Prb.mk 2 (M.nth (M.pls s) k) ye11)],_,_,_,rfl,rfl,by first|exact hE|(exfalso;omega)|(exfalso;simp at hx;done),zt,zu,zu,rfl⟩ (x9.trans x29)
  have hq:¬ (M.wrd ye11).2.2=1->M.blt seen (M.wrd ye11).1.toNat=false:=by have h9:=h14;simp at h9;exact h9
  refine Js.skip<|Js.seq<|zS<|Qm rfl<|Qd rfl rfl<|JL.nil ?_
  refine zi (λh30 h30'=>?_) λh30 h30'=>?_
  ·have h0:¬ (M.wrd ye11).2.2=0:=by simpa using h30
   have hZ:=fun (h1:¬ (M.wrd ye11).2.2=1)=>M.chk_o hC hY h1 (by rw[hq h1];decide) h0
   refine zdr [12] ?_
   refine jM 0 rfl rfl ?_
   refine jM 1 rfl rfl ?_
   refine jM 2 rfl rfl ?_
   refine jM 3 rfl rfl ?_
   obtain⟨b31,o31,he31,hc31⟩:=a0l (Ty.mono _ h4 x9.vis) (i:=k) (by omega)
   refine jI 4 el_26 rfl rfl rfl he31 ?_
   refine jW 5 ty_2 rfl rfl hc31.vis ?_
   refine jM 6 rfl rfl ?_
   refine jM 7 rfl rfl ?_
   have hy32:=hye11
   obtain⟨b32,o32,he32,hc32⟩:=a0o (Ty.mono _ h3 x9.vis) hy32
   refine jI 8 el_31 rfl rfl rfl he32 ?_
   refine jW 9 ty_9 rfl rfl hc32.vis ?_
   refine JH.p 10 rfl (q_bld) ?_
   refine y1 11 ?_
   refine ybs rfl λb33=>?_
   refine y1 12 ?_
   refine JHo.e rfl (a0g (i:=1) (n':=(out++[(M.Prb.mk ((M.wrd ye11).2.2) (M.nth (M.pls s) k) ye11)]).length) (vs':=fltV vcProblem (out++[(M.Prb.mk ((M.wrd ye11).2.2) (M.nth (M.pls s) k) ye11)])) a2z rfl rfl rfl rfl (a0k (i:=0) a2b rfl rfl) (by omega) (by omega) ln2_ (by first|rfl|exact a1l _ _ _|exact a1d _ _ _|(simp[fltV];done))) (.inr rfl) ?_
   rintro v35 _ _ ⟨⟨g36,rfl⟩,rfl⟩ _
   refine JH.fact (row_form' (i:=1) rfl) (λhf37=>?_)
   obtain⟨A37,c37,rfl,bl37,bh37⟩:=hf37
   refine znh ?_
   refine jA 13 rfl rfl ?_
   refine yd ?_
   refine Js.seq<|zS<|Qm rfl<|Qe rfl rfl<|Qm rfl<|zg (Gd.f1 rfl rfl rfl) (λhc=>a0e rfl)<|zg (Gd.f1 rfl rfl rfl) (λhc=>p_eql (gh hc rfl) rfl)<|Qq (a0j rfl rfl rfl)<|JL.nil ?_
   refine zi (λh38 h38'=>?_) λh38 h38'=>?_
   ·have hu:(M.wrd ye11).2.2=1\/(M.wrd ye11).2.2=2:=by have h9:=h38;simp only[Bool.or_eq_true,decide_eq_true_eq] at h9;exact h9
    have hE:=M.chk_u hC hY (by omega)
    refine zx ?_
    refine Js.region<|Qm rfl<|Qp rfl rfl<|Qa rfl<|JL.nil ?_
    refine zd [1,1,1,1] rfl λu39 x39=>?_
    exact zag ⟨k + 1,v,seen,again,out++[(M.Prb.mk ((M.wrd ye11).2.2) (M.nth (M.pls s) k) ye11)],_,_,_,rfl,rfl,by first|exact hE|(exfalso;omega)|(exfalso;simp at hx;done),zt,zu,zu,rfl⟩ (x9.trans x39)
   have hu:¬ ((M.wrd ye11).2.2=1\/(M.wrd ye11).2.2=2):=by have h9:=h38;simp only[Bool.or_eq_false_iff,decide_eq_false_iff_not] at h9;rintro(h8|h8);exact h9.1 h8;exact h9.2 h8
   have hE:=hZ (by omega)
   have hy40:seen[((M.wrd ye11).1).toNat]?=some (M.blt seen (((M.wrd ye11).1).toNat)):=M.a9s len_
   refine Js.skip<|zS<|Qm rfl<|Qm rfl<|Qq (a0a b5y rfl rfl len_ len_ rfl) ?_
   refine JL.s (a0i (i:=2) (xs':=fltV vcbool (seen.set (((M.wrd ye11).1).toNat) true)) ty_4.h rfl rfl rfl rfl rfl rfl (b6e (C:=vcbool) (j:=0) (λ_=>rfl) len_ (by decide)) (b2y (C:=vcbool) (y:=true) (λ_=>rfl) len_)) ?_
   rintro _ _ _ ⟨rfl,rfl⟩ _
   refine znl ?_
   refine zN<|Qm rfl<|Qm rfl<|Qm rfl<|Qq (a0a el_26 rfl rfl (by omega) (by omega) rfl) ?_
   refine JL.s (a0i (i:=3) (xs':=ints_ (M.setI v ((M.wrd ye11).1) ((M.wrd ye11).2.1))) ty_2.h rfl rfl rfl rfl rfl rfl (a0q (i:=((M.wrd ye11).1).toNat) (by omega)) (a0m (i:=((M.wrd ye11).1).toNat) (by omega))) ?_
   rintro _ _ _ ⟨rfl,rfl⟩ _
   refine znl ?_
   refine zN<|Qm rfl<|Qe rfl rfl<|JL.nil ?_
   refine zi (λh42 h42'=>?_) λh42 h42'=>?_
   ·rw[if_pos (show(M.wrd ye11).1=6 from by simpa using h42)] at hE
    obtain⟨b43,o43,he43,hc43⟩:=a0l (Ty.mono _ h4 x9.vis) (i:=k) (by omega)
    refine Js.region<|Qm rfl<|Qm rfl<|Qq (a0a el_26 rfl rfl (by omega) (by omega) he43)<|QC hc43 rfl<|Qa rfl<|JL.nil<|Js.blockEnd<|Js.region<|Qm rfl<|Qp rfl rfl<|Qa rfl<|JL.nil ?_
    refine zd [1,1,1,1] rfl λu44 x44=>?_
    exact zag ⟨k + 1,M.setI v ((M.wrd ye11).1) ((M.wrd ye11).2.1),seen.set (((M.wrd ye11).1).toNat) true,M.nth (M.pls s) k,out++[(M.Prb.mk ((M.wrd ye11).2.2) (M.nth (M.pls s) k) ye11)],_,_,_,rfl,rfl,by first|exact hE|(exfalso;omega)|(exfalso;simp at hx;done),zt,zu,zu,rfl⟩ (x9.trans x44)
   rw[if_neg (show ¬ (M.wrd ye11).1=6 from by simpa using h42)] at hE
   refine Js.skip<|Js.blockEnd<|Js.region<|Qm rfl<|Qp rfl rfl<|Qa rfl<|JL.nil ?_
   refine zd [1,1,1,1] rfl λu45 x45=>?_
   exact zag ⟨k + 1,M.setI v ((M.wrd ye11).1) ((M.wrd ye11).2.1),seen.set (((M.wrd ye11).1).toNat) true,again,out++[(M.Prb.mk ((M.wrd ye11).2.2) (M.nth (M.pls s) k) ye11)],_,_,_,rfl,rfl,by first|exact hE|(exfalso;omega)|(exfalso;simp at hx;done),zt,zu,zu,rfl⟩ (x9.trans x45)
  have h0:(M.wrd ye11).2.2=0:=by simpa using h30
  have hZ:=fun (h1:¬ (M.wrd ye11).2.2=1)=>M.chk_z hC hY (by rw[hq h1];decide) h0
  refine Js.skip<|Js.seq<|zS<|Qm rfl<|Qe rfl rfl<|Qm rfl<|zg (Gd.f1 rfl rfl rfl) (λhc=>a0e rfl)<|zg (Gd.f1 rfl rfl rfl) (λhc=>p_eql (gh hc rfl) rfl)<|Qq (a0j rfl rfl rfl)<|JL.nil ?_
  refine zi (λh46 h46'=>?_) λh46 h46'=>?_
  ·have hu:(M.wrd ye11).2.2=1\/(M.wrd ye11).2.2=2:=by have h9:=h46;simp only[Bool.or_eq_true,decide_eq_true_eq] at h9;exact h9
   have hE:=M.chk_u hC hY (by omega)
   refine zx ?_
   refine Js.region<|Qm rfl<|Qp rfl rfl<|Qa rfl<|JL.nil ?_
   exact zag ⟨k + 1,v,seen,again,out,_,_,_,rfl,rfl,by first|exact hE|(exfalso;omega)|(exfalso;simp at hx;done),zt,zu,zu,rfl⟩ x9
  have hu:¬ ((M.wrd ye11).2.2=1\/(M.wrd ye11).2.2=2):=by have h9:=h46;simp only[Bool.or_eq_false_iff,decide_eq_false_iff_not] at h9;rintro(h8|h8);exact h9.1 h8;exact h9.2 h8
  have hE:=hZ (by omega)
  have hy47:seen[((M.wrd ye11).1).toNat]?=some (M.blt seen (((M.wrd ye11).1).toNat)):=M.a9s len_
  refine Js.skip<|zS<|Qm rfl<|Qm rfl<|Qq (a0a b5y rfl rfl len_ len_ rfl) ?_
  refine JL.s (a0i (i:=1) (xs':=fltV vcbool (seen.set (((M.wrd ye11).1).toNat) true)) ty_4.h rfl rfl rfl rfl rfl rfl (b6e (C:=vcbool) (j:=0) (λ_=>rfl) len_ (by decide)) (b2y (C:=vcbool) (y:=true) (λ_=>rfl) len_)) ?_
  rintro _ _ _ ⟨rfl,rfl⟩ _
  refine znl ?_
  refine zN<|Qm rfl<|Qm rfl<|Qm rfl<|Qq (a0a el_26 rfl rfl (by omega) (by omega) rfl) ?_
  refine JL.s (a0i (i:=2) (xs':=ints_ (M.setI v ((M.wrd ye11).1) ((M.wrd ye11).2.1))) ty_2.h rfl rfl rfl rfl rfl rfl (a0q (i:=((M.wrd ye11).1).toNat) (by omega)) (a0m (i:=((M.wrd ye11).1).toNat) (by omega))) ?_
  rintro _ _ _ ⟨rfl,rfl⟩ _
  refine znl ?_
  refine zN<|Qm rfl<|Qe rfl rfl<|JL.nil ?_
  refine zi (λh49 h49'=>?_) λh49 h49'=>?_
  ·rw[if_pos (show(M.wrd ye11).1=6 from by simpa using h49)] at hE
   obtain⟨b50,o50,he50,hc50⟩:=a0l (Ty.mono _ h4 x9.vis) (i:=k) (by omega)
   refine Js.region<|Qm rfl<|Qm rfl<|Qq (a0a el_26 rfl rfl (by omega) (by omega) he50)<|QC hc50 rfl<|Qa rfl<|JL.nil<|Js.blockEnd<|Js.region<|Qm rfl<|Qp rfl rfl<|Qa rfl<|JL.nil ?_
   exact zag ⟨k + 1,M.setI v ((M.wrd ye11).1) ((M.wrd ye11).2.1),seen.set (((M.wrd ye11).1).toNat) true,M.nth (M.pls s) k,out,_,_,_,rfl,rfl,by first|exact hE|(exfalso;omega)|(exfalso;simp at hx;done),zt,zu,zu,rfl⟩ x9
  rw[if_neg (show ¬ (M.wrd ye11).1=6 from by simpa using h49)] at hE
  refine Js.skip<|Js.blockEnd<|Js.region<|Qm rfl<|Qp rfl rfl<|Qa rfl<|JL.nil ?_
  exact zag ⟨k + 1,M.setI v ((M.wrd ye11).1) ((M.wrd ye11).2.1),seen.set (((M.wrd ye11).1).toNat) true,again,out,_,_,_,rfl,rfl,by first|exact hE|(exfalso;omega)|(exfalso;simp at hx;done),zt,zu,zu,rfl⟩ x9
 have hA:=M.chk_e hC (by have:=h10';omega) hk
 obtain⟨hv9,hs9,ho9⟩:=M.a5n s k
 rw[hC] at hv9 hs9 ho9
 dsimp only at hv9 hs9 ho9
 refine zx ?_
 refine Js.seq<|zS<|Qa rfl<|JL.nil<|Js.block ?_
 refine zl [0,2,6,7,9] (λF U l os u m=>∃ (j:Nat) (out2:List M.Prb) (A51_8:Option Addr) (c51_8:Nat) (g51_8:List Nat),l=F [(8,.slice A51_8 out2.length c51_8),(14,.int .i64 (j:Int))]/\os=U [some (rowO 239 3 (.slice A51_8 out2.length c51_8) out2.length (fltV vcProblem out2) g51_8)]/\(out2=M.chkM s j)/\(j<=2)/\(out2.length<=c51_8)/\(c51_8<=9223372036854775807)/\m=2 - j) ⟨0,out,_,_,_,rfl,rfl,by rw[M.chkM,hA],zt,zu,zu,rfl⟩ ?_
 rintro _ _ u51 _ ⟨j,out2,A51_8,c51_8,g51_8,rfl,rfl,hM,hj,f51_2,f51_3,rfl⟩ x51
 refine zn ?_
 have hml:=M.b3m s j
 rw[<- hM] at hml
 refine Js.seq<|zS<|Qm rfl<|Ql rfl rfl<|JL.nil ?_
 refine zi (λh52 h52'=>?_) λh52 h52'=>?_
 ·have hy53:seen[j]?=some (M.blt seen j):=M.a9s len_
  refine Js.skip<|Js.seq<|Js.block<|zS<|Qm rfl<|Qm rfl<|Qq (a0a b5y rfl rfl len_ len_ rfl)<|Qw (a0c ty_4.h rfl (λw hw=>(Mem.rowR' (i:=1) rfl (fltV_at (C:=vcbool) (λ_=>rfl) hy53) w hw) 0 _ rfl))<|Qt rfl<|JL.nil ?_
  refine zi (λh54 h54'=>?_) λh54 h54'=>?_
  ·have hb9:¬ M.blt seen j=true:=by simpa using h54
   obtain⟨ye55,hye55⟩:∃ x,M.fieldNames[j]?=some x:=⟨_,List.getElem?_eq_getElem (by omega)⟩
   have hY2:M.fieldNames[j]?=some ye55:=hye55
   refine Js.region<|Qm rfl<|Qm rfl<|Qq (a0t und_9 rfl)<|zp rfl (λw hw=>zq44) ?_
   intro u56 x56 A57 c57 h57 bl57 bh57
   have hy58:=hye55
   obtain⟨b58,o58,he58,hc58⟩:=a0o h57 hy58
   refine Qm rfl<|Qq (a0a el_31 rfl rfl (by omega) (by omega) he58)<|QC hc58 rfl<|Qb ?_
   refine zbs λb59=>?_
   refine JL.e (a0g (i:=1) (n':=(out2++[(M.Prb.mk 5 (s.length:Int) ye55)]).length) (vs':=fltV vcProblem (out2++[(M.Prb.mk 5 (s.length:Int) ye55)])) a2z rfl rfl rfl rfl (a0k (i:=0) a2b rfl rfl) (by omega) (by omega) ln2_ (by first|rfl|exact a1l _ _ _|exact a1d _ _ _|(simp[fltV];done))) ?_
   rintro v61 _ _ ⟨⟨g62,rfl⟩,rfl⟩ _
   refine JL.fact (row_form' (i:=1) rfl) (λhf63=>?_)
   obtain⟨A63,c63,rfl,bl63,bh63⟩:=hf63
   refine znl ?_
   refine Qa rfl<|JL.nil<|Js.blockEnd<|Js.region<|Qm rfl<|Qp rfl rfl<|Qa rfl<|JL.nil ?_
   refine zd [1,1,1,1] rfl λu64 x64=>?_
   exact zag ⟨j + 1,out2++[(M.Prb.mk 5 (s.length:Int) ye55)],_,_,_,rfl,rfl,by first|exact hM2|exact M.chkM_f hA hM hb9 hY2,zt,zu,zu,rfl⟩ ((x51.trans x56).trans x64)
  have hM2:=M.chkM_t hA hM (by simpa using h54)
  refine Js.skip<|Js.blockEnd<|Js.region<|Qm rfl<|Qp rfl rfl<|Qa rfl<|JL.nil ?_
  exact zag ⟨j + 1,out2,_,_,_,rfl,rfl,by first|exact hM2|exact M.chkM_f hA hM hb9 hY2,zt,zu,zu,rfl⟩ x51
 have hj2:j=2:=by have:=h52';omega
 have hml:=M.b3m s j
 rw[<- hM] at hml
 have hE2:=M.chkR_e hA
 refine zx ?_
 refine Js.seq<|zS<|Qm rfl<|Qq (a0a el_26 rfl rfl (by omega) (by omega) rfl)<|Qw (a0c ty_2.h rfl (Mem.row (i:=2) rfl (a9b (i:=6) (by omega))))<|Qe rfl rfl<|Qm rfl<|zg (Gd.t1 rfl rfl rfl) (λhc=>a0e rfl)<|zg (Gd.t1 rfl rfl rfl) (λhc=>a0a el_26 (gh hc rfl) rfl (oh_ hc) (oh_ hc) rfl) ?_
 refine zgq (Gd.t1 rfl rfl rfl) (λhc=>a0c ty_2.h (gh hc rfl) (Mem.row (i:=2) rfl (a9b (i:=2) (oh_ hc)))) ?_
 refine zg (Gd.t1 rfl rfl rfl) (λhc=>p_eql (gh hc rfl) rfl)<|Qq (a0d rfl rfl rfl)<|JL.nil ?_
 refine zi (λh67 h67'=>?_) λh67 h67'=>?_
 ·have hq2:M.nth v 6=1/\M.nth v 2=0:=by have h9:=h67;simp at h9;exact h9
  have hE:=M.chkO_t hA hM hj2 hq2.1 hq2.2
  refine Js.region<|Qm rfl<|Qm rfl<|Qb ?_
  refine zbs λb68=>?_
  refine JL.e (a0g (i:=1) (n':=(out2++([(M.Prb.mk 6 again ([97,103,97,105,110]:List UInt8))])).length) (vs':=fltV vcProblem (out2++([(M.Prb.mk 6 again ([97,103,97,105,110]:List UInt8))]))) a2z rfl rfl rfl rfl (a0k (i:=0) a2b rfl rfl) (by omega) (by omega) ln2_ (by first|rfl|exact a1l _ _ _|exact a1d _ _ _|(simp[fltV];done))) ?_
  rintro v70 _ _ ⟨⟨g71,rfl⟩,rfl⟩ _
  refine JL.fact (row_form' (i:=1) rfl) (λhf72=>?_)
  obtain⟨A72,c72,rfl,bl72,bh72⟩:=hf72
  refine znl ?_
  refine Qa rfl<|zN<|Qm rfl<|zp rfl (λw hw=>zq87 v (ok_ hw)) ?_
  intro u73 x73
  have hq0:((M.rulV v).pits)=(M.chkR s).pits:=by first|(rw[hE2];done)|exact hE|(rw[hE];done)
  have hq1:((M.rulV v).seeds)=(M.chkR s).seeds:=by first|(rw[hE2];done)|exact hE|(rw[hE];done)
  have hq2:((M.rulV v).stores)=(M.chkR s).stores:=by first|(rw[hE2];done)|exact hE|(rw[hE];done)
  have hq3:((M.rulV v).skip)=(M.chkR s).skip:=by first|(rw[hE2];done)|exact hE|(rw[hE];done)
  have hq4:((M.rulV v).relay)=(M.chkR s).relay:=by first|(rw[hE2];done)|exact hE|(rw[hE];done)
  have hq5:((M.rulV v).feed)=(M.chkR s).feed:=by first|(rw[hE2];done)|exact hE|(rw[hE];done)
  have hq6:((M.rulV v).again)=(M.chkR s).again:=by first|(rw[hE2];done)|exact hE|(rw[hE];done)
  have hq7:((M.rulV v).capture)=(M.chkR s).capture:=by first|(rw[hE2];done)|exact hE|(rw[hE];done)
  have hq8:((M.rulV v).slam)=(M.chkR s).slam:=by first|(rw[hE2];done)|exact hE|(rw[hE];done)
  have hq9:(out2++([(M.Prb.mk 6 again ([97,103,97,105,110]:List UInt8))]))=(M.chkO s):=by first|(rw[hE2];done)|exact hE|(rw[hE];done)
  refine Qm rfl<|zw 4 rfl rfl rfl ?_
  refine Qa rfl<|JL.nil ?_
  exact zro (((x2.trans x9).trans x51).trans x73) (g:=by exact(a2o (gvc gv_ (gvc (b3c lProblem (xs:=(out2++([(M.Prb.mk 6 again ([97,103,97,105,110]:List UInt8))]))) po_ (by first|rfl|(simp[fltV];done)) (by first|with_reducible rfl|assumption|rfl)) gvn))))
 have hq2:¬ (M.nth v 6=1/\M.nth v 2=0):=by have h9:=h67;simp at h9;rintro⟨h8,h7⟩;exact h9 h8 h7
 have hE:=M.chkO_f hA hM hj2 hq2
 refine Js.skip<|zS<|Qm rfl<|zp rfl (λw hw=>zq87 v (ok_ hw)) ?_
 intro u74 x74
 have hq0:((M.rulV v).pits)=(M.chkR s).pits:=by first|(rw[hE2];done)|exact hE|(rw[hE];done)
 have hq1:((M.rulV v).seeds)=(M.chkR s).seeds:=by first|(rw[hE2];done)|exact hE|(rw[hE];done)
 have hq2:((M.rulV v).stores)=(M.chkR s).stores:=by first|(rw[hE2];done)|exact hE|(rw[hE];done)
 have hq3:((M.rulV v).skip)=(M.chkR s).skip:=by first|(rw[hE2];done)|exact hE|(rw[hE];done)
 have hq4:((M.rulV v).relay)=(M.chkR s).relay:=by first|(rw[hE2];done)|exact hE|(rw[hE];done)
 have hq5:((M.rulV v).feed)=(M.chkR s).feed:=by first|(rw[hE2];done)|exact hE|(rw[hE];done)
 have hq6:((M.rulV v).again)=(M.chkR s).again:=by first|(rw[hE2];done)|exact hE|(rw[hE];done)
 have hq7:((M.rulV v).capture)=(M.chkR s).capture:=by first|(rw[hE2];done)|exact hE|(rw[hE];done)
 have hq8:((M.rulV v).slam)=(M.chkR s).slam:=by first|(rw[hE2];done)|exact hE|(rw[hE];done)
 have hq9:out2=(M.chkO s):=by first|(rw[hE2];done)|exact hE|(rw[hE];done)
 refine Qm rfl<|zw 3 rfl rfl rfl ?_
 refine Qa rfl<|JL.nil ?_
 exact zro (((x2.trans x9).trans x51).trans x74) (g:=by exact(a2o (gvc gv_ (gvc (b3c lProblem (xs:=out2) po_ (by first|rfl|(simp[fltV];done)) (by first|with_reducible rfl|assumption|rfl)) gvn))))
end Go.Proofs.YtjgohnaobbphpaaGreatDoor

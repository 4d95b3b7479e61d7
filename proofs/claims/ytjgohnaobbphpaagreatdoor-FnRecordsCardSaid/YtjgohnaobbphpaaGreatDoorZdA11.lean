/- Walks: G18. -/
import Derived.Test.YtjgohnaobbphpaaGreatDoorZdA4
import Derived.Test.YtjgohnaobbphpaaGreatDoorZdA10
import Derived.Test.YtjgohnaobbphpaaGreatDoorZdA8
import Derived.Test.YtjgohnaobbphpaaGreatDoorZdA3
import Derived.Test.YtjgohnaobbphpaaGreatDoorZdA5
set_option linter.unusedSimpArgs false
set_option linter.unusedVariables false
set_option maxRecDepth 100000
attribute [local irreducible] Go.Proofs.YtjgohnaobbphpaaGreatDoor.gv
set_option maxHeartbeats 4000000
namespace Go.Proofs.YtjgohnaobbphpaaGreatDoor
open Go.RowKit
theorem zq51(kind:Int){w:World}  : RetV Tryz.prog 125 [.int .i64 kind] w (.string (sB (M.capName kind))):=by
 refine enter @Tryz.func125 @Tryz.ntmps125 rfl rfl ?_
 refine zent ?_
 refine zS<|Qa rfl<|zJ<|zS<|Qm rfl<|JL.nil<|Js.block<|zS<|Qe rfl rfl<|Qa rfl<|JL.nil ?_
 refine zi (λh1 h1'=>?_) λh1 h1'=>?_
 ·refine zS<|Qa rfl<|JL.nil ?_
  refine zR (Up.refl _ _) ?_
  first|(simp only[outV,M.capName, *,if_true,if_false];done)|(simp[outV,M.capName, *])
 refine zS<|Qe rfl rfl<|Qa rfl<|JL.nil ?_
 refine zi (λh2 h2'=>?_) λh2 h2'=>?_
 ·refine zS<|Qa rfl<|JL.nil ?_
  refine zR (Up.refl _ _) ?_
  first|(simp only[outV,M.capName, *,if_true,if_false];done)|(simp[outV,M.capName, *])
 refine zS<|Qe rfl rfl<|Qa rfl<|JL.nil ?_
 refine zi (λh3 h3'=>?_) λh3 h3'=>?_
 ·refine zS<|Qa rfl<|JL.nil ?_
  refine zR (Up.refl _ _) ?_
  first|(simp only[outV,M.capName, *,if_true,if_false];done)|(simp[outV,M.capName, *])
 refine zS<|Qe rfl rfl<|Qa rfl<|JL.nil ?_
 refine zi (λh4 h4'=>?_) λh4 h4'=>?_
 ·refine zS<|Qa rfl<|JL.nil ?_
  refine zR (Up.refl _ _) ?_
  first|(simp only[outV,M.capName, *,if_true,if_false];done)|(simp[outV,M.capName, *])
 refine Js.skip<|Js.blockEnd<|zS<|Qa rfl<|JL.nil ?_
 refine zR (Up.refl _ _) ?_
 first|(simp only[outV,M.capName, *,if_true,if_false];done)|(simp[outV,M.capName, *])
theorem zq52(kind:Int){w:World}  : RetV Tryz.prog 126 [.int .i64 kind] w (.string (sB (M.slamName kind))):=by
 refine enter @Tryz.func126 @Tryz.ntmps126 rfl rfl ?_
 refine zent ?_
 refine zS<|Qa rfl<|zJ<|zS<|Qm rfl<|JL.nil<|Js.block<|zS<|Qe rfl rfl<|Qa rfl<|JL.nil ?_
 refine zi (λh1 h1'=>?_) λh1 h1'=>?_
 ·refine zS<|Qa rfl<|JL.nil ?_
  refine zR (Up.refl _ _) ?_
  first|(simp only[outV,M.slamName, *,if_true,if_false];done)|(simp[outV,M.slamName, *])
 refine zS<|Qe rfl rfl<|Qa rfl<|JL.nil ?_
 refine zi (λh2 h2'=>?_) λh2 h2'=>?_
 ·refine zS<|Qa rfl<|JL.nil ?_
  refine zR (Up.refl _ _) ?_
  first|(simp only[outV,M.slamName, *,if_true,if_false];done)|(simp[outV,M.slamName, *])
 refine zS<|Qe rfl rfl<|Qa rfl<|JL.nil ?_
 refine zi (λh3 h3'=>?_) λh3 h3'=>?_
 ·refine zS<|Qa rfl<|JL.nil ?_
  refine zR (Up.refl _ _) ?_
  first|(simp only[outV,M.slamName, *,if_true,if_false];done)|(simp[outV,M.slamName, *])
 refine Js.skip<|Js.blockEnd<|zS<|Qa rfl<|JL.nil ?_
 refine zR (Up.refl _ _) ?_
 first|(simp only[outV,M.slamName, *,if_true,if_false];done)|(simp[outV,M.slamName, *])
theorem zq100  {w:World}  : Ret Tryz.prog 127 [] w (Ty.strs 9 M.fNames):=by
 refine enter @Tryz.func127 @Tryz.ntmps127 rfl rfl ?_
 refine zent ?_
 refine zS<|Qa rfl<|zN<|zbs λb1=>?_
 refine Qa rfl<|JL.nil ?_
 exact zro (Up.refl _ _) (g:=by exact(a7z po_ (by rfl) (by rfl)))
theorem zq15(r:M.Rul){v_r:Value}(y:List UInt8){w:World}(h_r:(Ty.ref (cRules r)).ok w v_r)(r0:y∈M.fNames:=by exact om_):RetV Tryz.prog 128 [v_r,.string (sB y)] w (addO v_r (M.flagIx y)):=by
 revert v_r;apply opn
 intro b1 o1 hr1
 refine enter @Tryz.func128 @Tryz.ntmps128 rfl rfl ?_
 refine zent ?_
 refine zS<|Qa rfl<|zJ<|zS<|Qm rfl<|JL.nil<|Js.block<|zS<|Qq (a0w und_9 rfl rfl)<|Qa rfl<|JL.nil ?_
 refine zi (λh2 h2'=>?_) λh2 h2'=>?_
 ·have e52:=h2'
  refine zS<|Qm rfl<|Qc rfl<|Qf fh rfl<|Qa rfl<|JL.nil ?_
  refine zR (Up.refl _ _) ?_
  first|(rw[e52];rfl)|(rw[e54];rfl)|(rw[e56];rfl)|(rw[e58];rfl)|(rw[e60];rfl)|(exfalso;simp only[M.fNames,List.mem_cons,List.not_mem_nil,or_false] at r0;rcases r0 with h|h|h|h|h <;> contradiction)
 have e52:=h2'
 refine zS<|Qq (a0w und_9 rfl rfl)<|Qa rfl<|JL.nil ?_
 refine zi (λh3 h3'=>?_) λh3 h3'=>?_
 ·have e54:=h3'
  refine zS<|Qm rfl<|Qc rfl<|Qf fh rfl<|Qa rfl<|JL.nil ?_
  refine zR (Up.refl _ _) ?_
  first|(rw[e52];rfl)|(rw[e54];rfl)|(rw[e56];rfl)|(rw[e58];rfl)|(rw[e60];rfl)|(exfalso;simp only[M.fNames,List.mem_cons,List.not_mem_nil,or_false] at r0;rcases r0 with h|h|h|h|h <;> contradiction)
 have e54:=h3'
 refine zS<|Qq (a0w und_9 rfl rfl)<|Qa rfl<|JL.nil ?_
 refine zi (λh4 h4'=>?_) λh4 h4'=>?_
 ·have e56:=h4'
  refine zS<|Qm rfl<|Qc rfl<|Qf fh rfl<|Qa rfl<|JL.nil ?_
  refine zR (Up.refl _ _) ?_
  first|(rw[e52];rfl)|(rw[e54];rfl)|(rw[e56];rfl)|(rw[e58];rfl)|(rw[e60];rfl)|(exfalso;simp only[M.fNames,List.mem_cons,List.not_mem_nil,or_false] at r0;rcases r0 with h|h|h|h|h <;> contradiction)
 have e56:=h4'
 refine zS<|Qq (a0w und_9 rfl rfl)<|Qa rfl<|JL.nil ?_
 refine zi (λh5 h5'=>?_) λh5 h5'=>?_
 ·have e58:=h5'
  refine zS<|Qm rfl<|Qc rfl<|Qf fh rfl<|Qa rfl<|JL.nil ?_
  refine zR (Up.refl _ _) ?_
  first|(rw[e52];rfl)|(rw[e54];rfl)|(rw[e56];rfl)|(rw[e58];rfl)|(rw[e60];rfl)|(exfalso;simp only[M.fNames,List.mem_cons,List.not_mem_nil,or_false] at r0;rcases r0 with h|h|h|h|h <;> contradiction)
 have e58:=h5'
 refine zS<|Qq (a0w und_9 rfl rfl)<|Qa rfl<|JL.nil ?_
 refine zi (λh6 h6'=>?_) λh6 h6'=>?_
 ·have e60:=h6'
  refine zS<|Qm rfl<|Qc rfl<|Qf fh rfl<|Qa rfl<|JL.nil ?_
  refine zR (Up.refl _ _) ?_
  first|(rw[e52];rfl)|(rw[e54];rfl)|(rw[e56];rfl)|(rw[e58];rfl)|(rw[e60];rfl)|(exfalso;simp only[M.fNames,List.mem_cons,List.not_mem_nil,or_false] at r0;rcases r0 with h|h|h|h|h <;> contradiction)
 have e60:=h6'
 refine Js.skip<|Js.blockEnd<|zS<|Qa rfl<|JL.nil ?_
 refine zR (Up.refl _ _) ?_
 first|(rw[e52];rfl)|(rw[e54];rfl)|(rw[e56];rfl)|(rw[e58];rfl)|(rw[e60];rfl)|(exfalso;simp only[M.fNames,List.mem_cons,List.not_mem_nil,or_false] at r0;rcases r0 with h|h|h|h|h <;> contradiction)
theorem zq53(r:M.Rul){v_r:Value}{w:World}(h_r:(Ty.agg (cRules r)).ok w v_r)(h_tab:tabT.ok w undef):RetV Tryz.prog 72 [v_r] w (.string (sB (M.rulesTR r))):=by
 revert v_r;apply opn
 refine enter @Tryz.func72 @Tryz.ntmps72 rfl rfl ?_
 refine zent ?_
 refine zS<|zb rfl λb1=>Qa rfl<|zJ<|zS<|Q9 0 rfl rfl ?_
 refine zv rfl (λw hw=>zq54 r (ok_ hw))<|Qt rfl<|JL.nil ?_
 refine zi (λh2 h2'=>?_) λh2 h2'=>?_
 ·have hno:M.okR r=false:=by simpa using h2
  have hE:=M.b1h hno
  refine zS<|Qa rfl<|JL.nil ?_
  refine zR (Up.refl _ _) ?_
  first|(rw[hE];rfl)|(rw[hE,<- hJ3];rfl)
 have hok:M.okR r=true:=by simpa using h2
 have hE:=M.a2c hok
 have hbd:=M.a6q hok
 have hl5:M.fNames.length=5:=rfl
 refine Js.skip<|Js.seq ?_
 refine zdr [] ?_
 refine jF 0 a3d rfl rfl ?_
 refine jB 1 0 ty_2 rfl rfl rfl rfl ?_
 refine jF 5 a5p rfl rfl ?_
 refine jB 6 0 ty_2 rfl rfl rfl rfl ?_
 refine jF 10 a7c rfl rfl ?_
 refine jB 11 0 ty_2 rfl rfl rfl rfl ?_
 refine jF 15 a5t rfl rfl ?_
 refine jB 16 0 ty_2 rfl rfl rfl rfl ?_
 refine y1 2 ?_
 refine yv rfl rfl (λw hw=>zq2 r.pits (ok_ hw)) ?_
 refine JH.p 3 rfl (q_cat rfl rfl) ?_
 refine JH.p 4 rfl (q_cat rfl rfl) ?_
 refine y1 7 ?_
 refine yv rfl rfl (λw hw=>zq2 r.seeds (ok_ hw)) ?_
 refine JH.p 8 rfl (q_cat rfl rfl) ?_
 refine JH.p 9 rfl (q_cat rfl rfl) ?_
 refine y1 12 ?_
 refine yv rfl rfl (λw hw=>zq51 r.capture) ?_
 refine JH.p 13 rfl (q_cat rfl rfl) ?_
 refine JH.p 14 rfl (q_cat rfl rfl) ?_
 refine y1 17 ?_
 refine yv rfl rfl (λw hw=>zq52 r.slam) ?_
 refine JH.p 18 rfl (q_cat rfl rfl) ?_
 refine jA 19 rfl rfl ?_
 refine yd ?_
 refine Js.seq<|zS<|zp rfl (λw hw=>zq100) ?_
 intro u3 x3 A4 c4 h4 bl4 bh4
 refine Qz rfl<|Qm rfl<|JL.nil<|Js.block ?_
 refine zl [1,28,29] (λF U l os u m=>∃ (k:Nat) (out:List UInt8),l=F [(3,.string (sB out)),(30,.int .i64 (k:Int))]/\os=U []/\(out=M.rulesN r k)/\(k<=5)/\m=5 - k) ⟨0,((((((([112,105,116,115,61]:List UInt8)++(M.dec r.pits))++([32,115,101,101,100,115,61]:List UInt8))++(M.dec r.seeds))++([32,99,97,112,116,117,114,101,61]:List UInt8))++(M.capName r.capture))++([32,115,108,97,109,61]:List UInt8))++(M.slamName r.slam),rfl,rfl,by rfl,zt,rfl⟩ ?_
 rintro _ _ u5 _ ⟨k,out,rfl,rfl,hJ,hk,rfl⟩ x5
 refine zn ?_
 have lb9:LenB out 155:=⟨by rw[hJ];have:=M.a5l r k hk;omega⟩
 refine zS<|Ql rfl rfl<|zJ ?_
 refine zi (λh6 h6'=>?_) λh6 h6'=>?_
 ·obtain⟨y7,hy7⟩:∃ x,M.fNames[k]?=some x:=⟨_,List.getElem?_eq_getElem (by omega)⟩
  obtain⟨b7,o7,he7,hc7⟩:=a0o (Ty.mono _ h4 x5.vis) hy7
  have lb8:LenB y7 6:=⟨M.b1a (List.mem_of_getElem? hy7)⟩
  refine Js.skip<|Js.seq<|Js.block<|zS<|Qq (a0a el_31 rfl rfl (by omega) (by omega) he7)<|QC hc7 rfl<|Qa rfl<|zN<|Qm rfl<|zv rfl (λw hw=>zq15 r y7 (ok_ hw) (r0:=(List.mem_of_getElem? hy7)))<|Qc rfl<|Qw (a0c ty_4.h rfl (Mem.box (i:=0) rfl (flag_get (List.mem_of_getElem? hy7))))<|JL.nil ?_
  refine zi (λh8 h8'=>?_) λh8 h8'=>?_
  ·have hJ2:=M.c0d hJ hy7 (by simpa using h8)
   refine Js.region<|Qm rfl<|Qm rfl<|Qq (q_cat rfl rfl)<|Qq (q_cat rfl rfl)<|Qa rfl<|JL.nil<|Js.blockEnd<|Js.region<|Qp rfl rfl<|Qm rfl<|JL.nil ?_
   exact zag ⟨k + 1,out++(([32]:List UInt8)++y7),rfl,rfl,by exact hJ2,zt,rfl⟩ x5
  have hJ2:=M.b7y hJ hy7 (by simpa using h8)
  refine Js.skip<|Js.blockEnd<|Js.region<|Qp rfl rfl<|Qm rfl<|JL.nil ?_
  exact zag ⟨k + 1,out,rfl,rfl,by exact hJ2,zt,rfl⟩ x5
 have hJ3:=M.b9e hJ (by have:=h6';omega) hk
 refine zx ?_
 refine zS<|Qm rfl<|Qa rfl<|JL.nil ?_
 refine zR (x3.trans x5) ?_
 first|(rw[hE];rfl)|(rw[hE,<- hJ3];rfl)
theorem zq101(g:M.Gam){v_g:Value}{w:World}(h_g:(Ty.agg (cGame g)).ok w v_g)(h_tab:tabT.ok w undef)(r0:g.start.pits.length<=4194304:=by exact om_)(r1:g.start.stores.length<=4194304:=by exact om_)(r2:g.moves.length<=4194304:=by exact om_)(r3:g.now.pits.length<=4194304:=by exact om_)(r4:g.now.stores.length<=4194304:=by exact om_):RetV Tryz.prog 32 [v_g] w (.string (sB (M.recTR g))):=by
 revert v_g;apply opn
 intro A1 c1 h1 bl1 bh1 A2 c2 h2 bl2 bh2 A3 c3 h3 bl3 bh3 A4 c4 h4 bl4 bh4 A5 c5 h5 bl5 bh5
 refine enter @Tryz.func32 @Tryz.ntmps32 rfl rfl ?_
 refine zent ?_
 refine zS<|zb rfl λb6=>Qa rfl<|zJ<|zS<|Q9 0 rfl rfl ?_
 refine zv rfl (λw hw=>zq98 g (ok_ hw))<|Qt rfl<|JL.nil ?_
 refine zi (λh7 h7'=>?_) λh7 h7'=>?_
 ·have hno:M.okG g=false:=by simpa using h7
  have hE:=M.b3d hno
  refine zS<|Qa rfl<|JL.nil ?_
  refine zR (Up.refl _ _) ?_
  first|(rw[hE];rfl)|(rw[hE,hR];rfl)
 have hok:M.okG g=true:=by simpa using h7
 have hE:=M.a6o hok
 obtain⟨k1,k2,k3,k4,k5,k6,k7,k8,k9⟩:=M.a0u hok
 have k13:(M.playedR g).length=g.moves.length:=by rw[k7,k8]
 have kr:=(M.a7u k1)
 have kt:=M.a2c kr
 have ks:=M.a3u k1
 have kq:=M.a0y k1
 have lb1:LenB (M.rulesTR g.rules) 155:=⟨by rw[kt];exact M.a4h _⟩
 have lb2:LenB (M.posTextR g.rules g.start) 1000:=⟨by rw[ks];exact M.a6m (by omega) (by omega)⟩
 have kl:=M.a2a k1
 refine Js.skip<|zS<|Q9 0 rfl rfl ?_
 refine zp rfl (λw hw=>zq49 g (ok_ hw)) ?_
 intro u8 x8 A9 c9 h9 bl9 bh9 A10 c10 h10 bl10 bh10
 refine Qm rfl<|Qx rfl rfl<|Qx rfl rfl<|Qx rfl rfl<|Qa rfl<|Qa rfl<|Qa rfl<|zJ ?_
 refine zdr [] ?_
 refine jF 0 a1u rfl rfl ?_
 refine JH.q 1 rfl (L9 0 rfl rfl) ?_
 refine jF 5 a1u rfl rfl ?_
 refine JH.q 6 rfl (L9 0 rfl rfl) ?_
 refine jF 7 a2l rfl rfl ?_
 refine JH.q 8 rfl (L9 0 rfl rfl) ?_
 refine y1 2 ?_
 refine yv rfl rfl (λw hw=>zq53 g.rules (ok_ hw) (ok_ hw)) ?_
 refine JH.p 3 rfl (q_cat rfl rfl) ?_
 refine JH.p 4 rfl (q_cat rfl rfl) ?_
 refine y1 9 ?_
 refine yv rfl rfl (λw hw=>zq50 g.rules g.start (ok_ hw) (ok_ hw) (ok_ hw)) ?_
 refine JH.p 10 rfl (q_cat rfl rfl) ?_
 refine JH.p 11 rfl (q_cat rfl rfl) ?_
 refine jA 12 rfl rfl ?_
 refine yd ?_
 refine Js.seq<|zS<|Qm rfl<|Qz rfl<|Qm rfl<|JL.nil<|Js.block ?_
 refine zl [1,30,31] (λF U l os u m=>∃ (k:Nat) (out:List UInt8),l=F [(6,.string (sB out)),(32,.int .i64 (k:Int))]/\os=U []/\(out=M.recB g k)/\(k<=g.moves.length)/\m=g.moves.length - k) ⟨0,(((([114,117,108,101,115,32]:List UInt8)++(M.rulesTR g.rules))++([10,115,116,97,114,116,32]:List UInt8))++(M.posTextR g.rules g.start))++([10]:List UInt8),rfl,rfl,by rw[kt,ks];rfl,zt,rfl⟩ ?_
 rintro _ _ u11 _ ⟨k,out,rfl,rfl,hJ,hk,rfl⟩ x11
 refine zn ?_
 have lb9:LenB out 10000:=⟨by rw[hJ];exact M.a7a hok (by omega)⟩
 refine zS<|Ql rfl rfl<|zJ ?_
 refine zi (λh12 h12'=>?_) λh12 h12'=>?_
 ·obtain⟨y13,hy13⟩:∃ x,(M.playedR g)[k]?=some x:=⟨_,List.getElem?_eq_getElem (by omega)⟩
  obtain⟨b13,o13,V13_3,V13_4,V13_5,he13,hr13,hv13_3,hv13_4,hv13_5⟩:=b4c (Ty.mono _ h10 x11.vis) hy13
  refine Js.skip<|Js.seq<|Js.block<|zS<|Qm rfl<|Qq (a0a a3a rfl rfl (by omega) (by omega) he13)<|QS 0 hr13 rfl ?_
  refine za zeh λb14=>Qa rfl ?_
  refine JL.s (b2o (i:=0) (c':=[.int .i64 y13.move,.int .i64 y13.gain,.bool y13.again,V13_3,V13_4,V13_5]) ty_109.h rfl rfl rfl rfl rfl (show List.all [.int .i64 y13.move,.int .i64 y13.gain,.bool y13.again,V13_3,V13_4,V13_5] (·.oneCell')=true by simp only[List.all_cons,List.all_nil,hv13_3,hv13_4,hv13_5];rfl) rfl rfl) ?_
  rintro _ _ _ ⟨rfl,rfl⟩ _
  refine znl ?_
  have hY:=hy13
  rw[k7] at hY
  obtain⟨_,n1,n2,n3,n4⟩:=M.a9m _ _ _ _ _ hY
  have hJ2:=M.recB_step hJ hY
  refine JL.nil ?_
  refine zdr [] ?_
  refine jM 0 rfl rfl ?_
  refine jM 1 rfl rfl ?_
  refine JH.p 2 rfl (p_add rfl rfl (IntWalk.i64_in _ (by omega))) ?_
  refine jF 5 fld_109_0 rfl rfl ?_
  refine jB 6 0 ty_2 rfl rfl rfl rfl ?_
  refine jF 10 fld_109_1 rfl rfl ?_
  refine jB 11 0 ty_2 rfl rfl rfl rfl ?_
  refine y1 3 ?_
  refine yv rfl rfl (λw hw=>zq2 ((k:Int) + 1) (ok_ hw)) ?_
  refine JH.p 4 rfl (q_cat rfl rfl) ?_
  refine y1 7 ?_
  refine yv rfl rfl (λw hw=>zq2 y13.move (ok_ hw)) ?_
  refine JH.p 8 rfl (q_cat rfl rfl) ?_
  refine JH.p 9 rfl (q_cat rfl rfl) ?_
  refine y1 12 ?_
  refine yv rfl rfl (λw hw=>zq2 y13.gain (ok_ hw)) ?_
  refine JH.p 13 rfl (q_cat rfl rfl) ?_
  refine JH.p 14 rfl (q_cat rfl rfl) ?_
  refine JH.p 15 rfl (q_cat rfl rfl) ?_
  refine jA 16 rfl rfl ?_
  refine yd ?_
  refine Js.blockEnd<|Js.region<|Qp rfl rfl<|Qm rfl<|JL.nil ?_
  refine zd [1] rfl λu15 x15=>?_
  exact zag ⟨k + 1,out++((((((M.dec ((k:Int) + 1))++([46,32]:List UInt8))++(M.dec y13.move))++([43]:List UInt8))++(M.dec y13.gain))++([10]:List UInt8)),rfl,rfl,by exact hJ2,zt,rfl⟩ (x11.trans x15)
 have hJ3:=M.recB_e hJ (by have:=h12';omega) hk
 have lb9:LenB out 10000:=⟨by rw[hJ];exact M.a7a hok (by omega)⟩
 refine zx ?_
 refine Js.seq<|zS<|Qf fh rfl<|Q0 0 rfl rfl rfl<|Qh rfl rfl<|JL.nil ?_
 refine zi (λh16 h16'=>?_) λh16 h16'=>?_
 ·have hR:=M.recT_r hJ3 (by have:=h16';omega)
  refine Js.region<|Qm rfl<|Qf fh rfl<|Q0 0 rfl rfl rfl<|zv rfl (λw hw=>zq2 g.resigned (ok_ hw))<|Qq (q_cat rfl rfl)<|Qq (q_cat rfl rfl)<|Qq (q_cat rfl rfl)<|Qa rfl<|zN<|Qm rfl<|Qa rfl<|JL.nil ?_
  refine zR (x8.trans x11) ?_
  first|(rw[hE];rfl)|(rw[hE,hR];rfl)
 have hR:=M.recT_n hJ3 (by have:=h16';omega)
 refine Js.skip<|zS<|Qm rfl<|Qa rfl<|JL.nil ?_
 refine zR (x8.trans x11) ?_
 first|(rw[hE];rfl)|(rw[hE,hR];rfl)
theorem zq102(y:List UInt8){w:World}  : RetV Tryz.prog 214 [.string (sB y)] w (.tuple #[.int .i64 ((M.namedBy M.slamNames y).1),.int .i64 ((M.namedBy M.slamNames y).2)]):=by
 refine enter @Tryz.func214 @Tryz.ntmps214 rfl rfl ?_
 refine zent ?_
 refine zS<|Qa rfl<|Qa rfl<|zJ<|zS<|Qa rfl<|JL.nil<|Js.block ?_
 refine zl [0] (λF U l os u m=>∃ (k:Nat),l=F [(4,.int .i64 (k:Int))]/\os=U []/\(k<=3)/\(M.Nix M.slamNames y k)/\m=3 - k) ⟨0,rfl,rfl,zt,by exact M.Nix.zero _ _,rfl⟩ ?_
 rintro _ _ u1 _ ⟨k,rfl,rfl,hk,hN,rfl⟩ x1
 refine zn ?_
 refine Js.seq<|zS<|Qm rfl<|Qk rfl rfl<|JL.nil ?_
 refine zi (λh2 h2'=>?_) λh2 h2'=>?_
 ·have hY:=M.slam_at (k:=k) (by have:=h2';omega)
  refine Js.skip<|Js.seq<|Js.block<|zS<|Qm rfl<|zv rfl (λw hw=>zq52 (k:Int))<|Qm rfl<|Qq (a0w und_9 rfl rfl)<|JL.nil ?_
  refine zi (λh3 h3'=>?_) λh3 h3'=>?_
  ·have hE:=M.b4z hN hY (by simpa using h3)
   refine zS<|Qm rfl<|Qa rfl<|Qa rfl<|JL.nil ?_
   refine zR x1 ?_
   rw[hE];rfl
  have hN2:=hN.step hY (by simpa using h3)
  refine Js.skip<|Js.blockEnd<|Js.region<|Qm rfl<|Qp rfl rfl<|Qa rfl<|JL.nil ?_
  exact zag ⟨k + 1,rfl,rfl,zt,by exact hN2,rfl⟩ x1
 have hE:=M.b1j hN (show 3<=k by have:=h2';omega)
 refine zx ?_
 refine zS<|Qa rfl<|Qa rfl<|JL.nil ?_
 refine zR x1 ?_
 rw[hE];rfl
theorem zq24(r:M.Rul){v_r:Value}(y:List UInt8){w:World}(h_r:(Ty.ref (cRules r)).ok w v_r)(r0:M.isNum y=true:=by exact om_):RetV Tryz.prog 211 [v_r,.string (sB y)] w (addO v_r (M.numIx y)):=by
 revert v_r;apply opn
 intro b1 o1 hr1
 refine enter @Tryz.func211 @Tryz.ntmps211 rfl rfl ?_
 refine zent ?_
 refine zS<|Qa rfl<|zJ<|zS<|Qm rfl<|JL.nil<|Js.block<|zS<|Qq (a0w und_9 rfl rfl)<|Qa rfl<|JL.nil ?_
 refine zi (λh2 h2'=>?_) λh2 h2'=>?_
 ·have e69:=h2'
  refine zS<|Qm rfl<|Qc rfl<|Qf fh rfl<|Qa rfl<|JL.nil ?_
  refine zR (Up.refl _ _) ?_
  first|(rw[e69];rfl)|(rw[e71];rfl)|(rw[e73];rfl)|(rw[e75];rfl)|(exfalso;rcases M.a1x r0 with h|h|h|h <;> contradiction)
 have e69:=h2'
 refine zS<|Qq (a0w und_9 rfl rfl)<|Qa rfl<|JL.nil ?_
 refine zi (λh3 h3'=>?_) λh3 h3'=>?_
 ·have e71:=h3'
  refine zS<|Qm rfl<|Qc rfl<|Qf fh rfl<|Qa rfl<|JL.nil ?_
  refine zR (Up.refl _ _) ?_
  first|(rw[e69];rfl)|(rw[e71];rfl)|(rw[e73];rfl)|(rw[e75];rfl)|(exfalso;rcases M.a1x r0 with h|h|h|h <;> contradiction)
 have e71:=h3'
 refine zS<|Qq (a0w und_9 rfl rfl)<|Qa rfl<|JL.nil ?_
 refine zi (λh4 h4'=>?_) λh4 h4'=>?_
 ·have e73:=h4'
  refine zS<|Qm rfl<|Qc rfl<|Qf fh rfl<|Qa rfl<|JL.nil ?_
  refine zR (Up.refl _ _) ?_
  first|(rw[e69];rfl)|(rw[e71];rfl)|(rw[e73];rfl)|(rw[e75];rfl)|(exfalso;rcases M.a1x r0 with h|h|h|h <;> contradiction)
 have e73:=h4'
 refine zS<|Qq (a0w und_9 rfl rfl)<|Qa rfl<|JL.nil ?_
 refine zi (λh5 h5'=>?_) λh5 h5'=>?_
 ·have e75:=h5'
  refine zS<|Qm rfl<|Qc rfl<|Qf fh rfl<|Qa rfl<|JL.nil ?_
  refine zR (Up.refl _ _) ?_
  first|(rw[e69];rfl)|(rw[e71];rfl)|(rw[e73];rfl)|(rw[e75];rfl)|(exfalso;rcases M.a1x r0 with h|h|h|h <;> contradiction)
 have e75:=h5'
 refine Js.skip<|Js.blockEnd<|zS<|Qa rfl<|JL.nil ?_
 refine zR (Up.refl _ _) ?_
 first|(rw[e69];rfl)|(rw[e71];rfl)|(rw[e73];rfl)|(rw[e75];rfl)|(exfalso;rcases M.a1x r0 with h|h|h|h <;> contradiction)
theorem zq103(r:M.Rul){v_r:Value}(y:List UInt8){w:World}(h_r:(Ty.ref (cRules r)).ok w v_r)(r0:M.isNum y=false:=by exact om_):RetV Tryz.prog 211 [v_r,.string (sB y)] w (.pointer none):=by
 obtain⟨q1,q2,q3,q4⟩:=M.b9j r0
 revert v_r;apply opn
 intro b1 o1 hr1
 refine enter @Tryz.func211 @Tryz.ntmps211 rfl rfl ?_
 refine zent ?_
 refine zS<|Qa rfl<|zJ<|zS<|Qm rfl<|JL.nil<|Js.block<|zS<|Qq (a0w und_9 rfl rfl)<|Qa rfl<|JL.nil ?_
 refine zi (λh2 h2'=>?_) λh2 h2'=>?_
 · exact absurd h2' (by assumption)
 refine zS<|Qq (a0w und_9 rfl rfl)<|Qa rfl<|JL.nil ?_
 refine zi (λh3 h3'=>?_) λh3 h3'=>?_
 · exact absurd h3' (by assumption)
 refine zS<|Qq (a0w und_9 rfl rfl)<|Qa rfl<|JL.nil ?_
 refine zi (λh4 h4'=>?_) λh4 h4'=>?_
 · exact absurd h4' (by assumption)
 refine zS<|Qq (a0w und_9 rfl rfl)<|Qa rfl<|JL.nil ?_
 refine zi (λh5 h5'=>?_) λh5 h5'=>?_
 · exact absurd h5' (by assumption)
 refine Js.skip<|Js.blockEnd<|zS<|Qa rfl<|JL.nil ?_
 refine zR (Up.refl _ _) ?_
 rfl
theorem zq55(r:M.Rul){v_r:Value}(y:List UInt8){w:World}(h_r:(Ty.ref (cRules r)).ok w v_r)(r0:M.isFlg y=false:=by exact om_):RetV Tryz.prog 128 [v_r,.string (sB y)] w (.pointer none):=by
 obtain⟨q1,q2,q3,q4,q5⟩:=M.b8s r0
 revert v_r;apply opn
 intro b1 o1 hr1
 refine enter @Tryz.func128 @Tryz.ntmps128 rfl rfl ?_
 refine zent ?_
 refine zS<|Qa rfl<|zJ<|zS<|Qm rfl<|JL.nil<|Js.block<|zS<|Qq (a0w und_9 rfl rfl)<|Qa rfl<|JL.nil ?_
 refine zi (λh2 h2'=>?_) λh2 h2'=>?_
 · exact absurd h2' (by assumption)
 refine zS<|Qq (a0w und_9 rfl rfl)<|Qa rfl<|JL.nil ?_
 refine zi (λh3 h3'=>?_) λh3 h3'=>?_
 · exact absurd h3' (by assumption)
 refine zS<|Qq (a0w und_9 rfl rfl)<|Qa rfl<|JL.nil ?_
 refine zi (λh4 h4'=>?_) λh4 h4'=>?_
 · exact absurd h4' (by assumption)
 refine zS<|Qq (a0w und_9 rfl rfl)<|Qa rfl<|JL.nil ?_
 refine zi (λh5 h5'=>?_) λh5 h5'=>?_
 · exact absurd h5' (by assumption)
 refine zS<|Qq (a0w und_9 rfl rfl)<|Qa rfl<|JL.nil ?_
 refine zi (λh6 h6'=>?_) λh6 h6'=>?_
 · exact absurd h6' (by assumption)
 refine Js.skip<|Js.blockEnd<|zS<|Qa rfl<|JL.nil ?_
 refine zR (Up.refl _ _) ?_
 rfl
theorem zq56(c:Int){w:World}  : RetV Tryz.prog 109 [.int .u8 c] w (.bool (M.isDig c)):=by
 refine enter @Tryz.func109 @Tryz.ntmps109 rfl rfl ?_
 refine zent ?_
 refine zS<|Qa rfl<|zN<|Qm rfl<|Qh rfl rfl<|Qm rfl<|zg (Gd.t1 rfl rfl rfl) (λhc=>a0e rfl)<|zg (Gd.t1 rfl rfl rfl) (λhc=>p_leq (gh hc rfl) rfl)<|Qq (a0d rfl rfl rfl)<|Qa rfl<|JL.nil ?_
 exact zr (Up.refl _ _)
theorem zq11(t:List UInt8){w:World}(h_tab:tabT.ok w undef)(r0:t.length<=4194304:=by exact om_):RetV Tryz.prog 52 [.string (sB t)] w (.tuple #[.int .i64 ((M.num t).1),.bool ((M.num t).2)]):=by
 refine enter @Tryz.func52 @Tryz.ntmps52 rfl rfl ?_
 refine zent ?_
 have hbt1:=M.a3b t 0
 refine zS<|Qa rfl<|Qa rfl<|zN<|Qm rfl<|Qa rfl<|zJ<|zS<|Qm rfl<|Qq (a0t und_9 rfl)<|Qg rfl rfl<|Qm rfl<|zg (Gd.t1 rfl rfl rfl) (λhc=>a0e rfl)<|zg (Gd.t1 rfl rfl rfl) (λhc=>a1w (i:=0) und_9 (gh hc rfl) rfl (by first|have hc9:=hc;(try simp only[decide_eq_true_eq] at hc9);omega|(have h9:=List.length_pos_iff.2 (by simpa using hc);omega)|(have h9:=hc;simp at h9;omega))) ?_
 refine zg (Gd.t1 rfl rfl rfl) (λhc=>p_eql (gh hc rfl) rfl)<|Qq (a0d rfl rfl rfl)<|JL.nil ?_
 refine zi (λh2 h2'=>?_) λh2 h2'=>?_
 ·have h8:t≠[]:=by have h9:=h2;simp at h9;exact List.length_pos_iff.1 (by omega)
  have hT:M.numT t=t.drop 1:=by have h9:=h2;simp at h9;exact M.numT_y h8 h9.2
  have hln:1<=t.length:=List.length_pos_iff.2 h8
  refine Js.region<|Qm rfl<|Qq (a4m (i:=1) und_9 rfl rfl (by omega))<|Qa rfl<|zJ<|zS<|Qm rfl<|Qq (a0t und_9 rfl)<|Qe rfl rfl<|Qm rfl<|zg (Gd.f1 rfl rfl rfl) (λhc=>a0e rfl)<|zg (Gd.f1 rfl rfl rfl) (λhc=>a0t und_9 (gh hc rfl))<|zg (Gd.f1 rfl rfl rfl) (λhc=>p_gtr (gh hc rfl) rfl)<|Qq (a0j rfl rfl rfl) ?_
  refine JL.nil ?_
  refine zi (λh3 h3'=>?_) λh3 h3'=>?_
  ·have hE:=M.b2t (s:=t) (by rw[hT];have h9:=h3;simp at h9;omega)
   refine zS<|Qa rfl<|Qa rfl<|JL.nil ?_
   refine zR (Up.refl _ _) ?_
   first|(rw[hE];rfl)|(rw[hE,hS];rfl)
  have hl9:¬ ((M.numT t).length < 1\/18 < (M.numT t).length):=by rw[hT];have h9:=h3;simp at h9;omega
  refine Js.skip<|zS<|Qa rfl<|zJ<|zS<|Qm rfl<|Qq (a0t und_9 rfl)<|Qm rfl<|JL.nil<|Js.block ?_
  refine zl [0,4,27] (λF U l os u m=>∃ (k:Nat) (n:Int),l=F [(5,.int .i64 n),(28,.int .i64 (k:Int))]/\os=U []/\(n=M.numN (M.numT t) k)/\(M.Digs (M.numT t) k)/\(k<=(M.numT t).length)/\m=(M.numT t).length - k) ⟨0,0,rfl,rfl,by rfl,by exact M.Digs.zero _,zt,rfl⟩ ?_
  rintro _ _ u4 _ ⟨k,n,rfl,rfl,hN,hD,hk,rfl⟩ x4
  refine zn ?_
  obtain⟨n1,n2⟩:=M.a9v hD (by omega)
  rw[<- hN] at n1 n2
  refine zS<|Ql rfl rfl<|zJ ?_
  refine zi (λh5 h5'=>?_) λh5 h5'=>?_
  ·have hkk:k < (M.numT t).length:=by rw[hT];have:=h5';omega
   obtain⟨n3,n4⟩:=M.b2a hD (by omega)
   rw[<- hN] at n3 n4
   have hbt6:=M.a3b (t.drop 1) k
   refine Js.skip<|Js.seq<|Js.block<|zS<|Qm rfl<|Qa rfl<|zJ<|zS<|Qm rfl<|Qm rfl<|Qq (a1w (i:=k) und_9 rfl rfl (by omega))<|zv rfl (λw hw=>zq56 (M.bat (t.drop 1) k))<|Qt rfl<|JL.nil ?_
   refine zi (λh7 h7'=>?_) λh7 h7'=>?_
   ·have hE:=M.b3h (M.b2r hkk (by rw[hT];simpa using h7))
    refine zS<|Qa rfl<|Qa rfl<|JL.nil ?_
    refine zR x4 ?_
    first|(rw[hE];rfl)|(rw[hE,hS];rfl)
   have hd:M.isDig (M.bat (M.numT t) k)=true:=by rw[hT];simpa using h7
   have hD2:=hD.step hd
   obtain⟨d1,d2⟩:=M.b1g hd
   rw[hT] at d1 d2
   have hbt8:=M.a3b (t.drop 1) k
   refine Js.skip<|Js.region<|Qm rfl<|Qu rfl rfl<|Qm rfl<|Qm rfl<|Qq (a1w (i:=k) und_9 rfl rfl (by omega))<|Qq (p_sub rfl rfl (IntWalk.u8_in _ (by omega)))<|Qq (a4u @Tryz.underlying5 @Tryz.underlying2 rfl (IntWalk.i64_in _ (by omega)))<|Qp rfl rfl<|Qa rfl<|JL.nil<|Js.blockEnd<|Js.region ?_
   refine Qp rfl rfl<|Qm rfl<|JL.nil ?_
   exact zag ⟨k + 1,(10 * n) + ((M.bat (t.drop 1) k) - 48),rfl,rfl,by rw[hN,M.numN,hT],by exact hD2,zt,rfl⟩ x4
  have hke:k=(M.numT t).length:=Nat.le_antisymm hk (by rw[hT];have:=h5';omega)
  have hdg:=M.a5s hD (by omega)
  rw[hke] at hN
  refine zx ?_
  refine Js.seq<|zS<|Qm rfl<|Qq (a0t und_9 rfl)<|Qm rfl<|Qq (a0t und_9 rfl)<|Ql rfl rfl<|JL.nil ?_
  refine zi (λh9 h9'=>?_) λh9 h9'=>?_
  ·have hS:M.numS t=-n:=by rw[hN];exact M.a9c (by rw[hT];have:=h9';omega)
   refine Js.region<|Qm rfl<|Qq (p_neg (r:=-n) rfl (by rw[Int.zero_sub];exact IntWalk.i64_in _ (by omega)))<|Qa rfl<|zJ<|zS<|Qm rfl<|zv rfl (λw hw=>zq2 (-n) (ok_ hw))<|Qm rfl<|Qq (a2f und_9 rfl rfl)<|JL.nil ?_
   refine zi (λh10 h10'=>?_) λh10 h10'=>?_
   ·have hE:=M.a8m (s:=t) (by rw[hS];simpa using h10)
    refine zS<|Qa rfl<|Qa rfl<|JL.nil ?_
    refine zR x4 ?_
    first|(rw[hE];rfl)|(rw[hE,hS];rfl)
   have hE:=M.a3m hl9 hdg (by rw[hS];simpa using h10)
   refine Js.skip<|zS<|Qm rfl<|Qa rfl<|Qa rfl<|JL.nil ?_
   refine zR x4 ?_
   first|(rw[hE];rfl)|(rw[hE,hS];rfl)
  have hS:M.numS t=n:=by rw[hN];exact M.a9k (by rw[hT];have:=h9';omega)
  refine Js.skip<|Js.seq<|zS<|Qm rfl<|zv rfl (λw hw=>zq2 n (ok_ hw))<|Qm rfl<|Qq (a2f und_9 rfl rfl)<|JL.nil ?_
  refine zi (λh11 h11'=>?_) λh11 h11'=>?_
  ·have hE:=M.a8m (s:=t) (by rw[hS];simpa using h11)
   refine zS<|Qa rfl<|Qa rfl<|JL.nil ?_
   refine zR x4 ?_
   first|(rw[hE];rfl)|(rw[hE,hS];rfl)
  have hE:=M.a3m hl9 hdg (by rw[hS];simpa using h11)
  refine Js.skip<|zS<|Qm rfl<|Qa rfl<|Qa rfl<|JL.nil ?_
  refine zR x4 ?_
  first|(rw[hE];rfl)|(rw[hE,hS];rfl)
 have hT:M.numT t=t:=M.numT_n (by have h9:=h2;simp at h9;intro⟨a,b⟩;exact h9 (List.length_pos_iff.2 a) b)
 refine Js.skip<|Js.seq<|zS<|Qm rfl<|Qq (a0t und_9 rfl)<|Qe rfl rfl<|Qm rfl<|zg (Gd.f1 rfl rfl rfl) (λhc=>a0e rfl)<|zg (Gd.f1 rfl rfl rfl) (λhc=>a0t und_9 (gh hc rfl))<|zg (Gd.f1 rfl rfl rfl) (λhc=>p_gtr (gh hc rfl) rfl)<|Qq (a0j rfl rfl rfl)<|JL.nil ?_
 refine zi (λh12 h12'=>?_) λh12 h12'=>?_
 ·have hE:=M.b2t (s:=t) (by rw[hT];have h9:=h12;simp at h9;omega)
  refine zS<|Qa rfl<|Qa rfl<|JL.nil ?_
  refine zR (Up.refl _ _) ?_
  first|(rw[hE];rfl)|(rw[hE,hS];rfl)
 have hl9:¬ ((M.numT t).length < 1\/18 < (M.numT t).length):=by rw[hT];have h9:=h12;simp at h9;omega
 refine Js.skip<|zS<|Qa rfl<|zJ<|zS<|Qm rfl<|Qq (a0t und_9 rfl)<|Qm rfl<|JL.nil<|Js.block ?_
 refine zl [0,4,27] (λF U l os u m=>∃ (k:Nat) (n:Int),l=F [(5,.int .i64 n),(28,.int .i64 (k:Int))]/\os=U []/\(n=M.numN (M.numT t) k)/\(M.Digs (M.numT t) k)/\(k<=(M.numT t).length)/\m=(M.numT t).length - k) ⟨0,0,rfl,rfl,by rfl,by exact M.Digs.zero _,zt,rfl⟩ ?_
 rintro _ _ u13 _ ⟨k,n,rfl,rfl,hN,hD,hk,rfl⟩ x13
 refine zn ?_
 obtain⟨n1,n2⟩:=M.a9v hD (by omega)
 rw[<- hN] at n1 n2
 refine zS<|Ql rfl rfl<|zJ ?_
 refine zi (λh14 h14'=>?_) λh14 h14'=>?_
 ·have hkk:k < (M.numT t).length:=by rw[hT];have:=h14';omega
  obtain⟨n3,n4⟩:=M.b2a hD (by omega)
  rw[<- hN] at n3 n4
  have hbt15:=M.a3b t k
  refine Js.skip<|Js.seq<|Js.block<|zS<|Qm rfl<|Qa rfl<|zJ<|zS<|Qm rfl<|Qm rfl<|Qq (a1w (i:=k) und_9 rfl rfl (by omega))<|zv rfl (λw hw=>zq56 (M.bat t k))<|Qt rfl<|JL.nil ?_
  refine zi (λh16 h16'=>?_) λh16 h16'=>?_
  ·have hE:=M.b3h (M.b2r hkk (by rw[hT];simpa using h16))
   refine zS<|Qa rfl<|Qa rfl<|JL.nil ?_
   refine zR x13 ?_
   first|(rw[hE];rfl)|(rw[hE,hS];rfl)
  have hd:M.isDig (M.bat (M.numT t) k)=true:=by rw[hT];simpa using h16
  have hD2:=hD.step hd
  obtain⟨d1,d2⟩:=M.b1g hd
  rw[hT] at d1 d2
  have hbt17:=M.a3b t k
  refine Js.skip<|Js.region<|Qm rfl<|Qu rfl rfl<|Qm rfl<|Qm rfl<|Qq (a1w (i:=k) und_9 rfl rfl (by omega))<|Qq (p_sub rfl rfl (IntWalk.u8_in _ (by omega)))<|Qq (a4u @Tryz.underlying5 @Tryz.underlying2 rfl (IntWalk.i64_in _ (by omega)))<|Qp rfl rfl<|Qa rfl<|JL.nil<|Js.blockEnd<|Js.region ?_
  refine Qp rfl rfl<|Qm rfl<|JL.nil ?_
  exact zag ⟨k + 1,(10 * n) + ((M.bat t k) - 48),rfl,rfl,by rw[hN,M.numN,hT],by exact hD2,zt,rfl⟩ x13
 have hke:k=(M.numT t).length:=Nat.le_antisymm hk (by rw[hT];have:=h14';omega)
 have hdg:=M.a5s hD (by omega)
 rw[hke] at hN
 refine zx ?_
 refine Js.seq<|zS<|Qm rfl<|Qq (a0t und_9 rfl)<|Qm rfl<|Qq (a0t und_9 rfl)<|Ql rfl rfl<|JL.nil ?_
 refine zi (λh18 h18'=>?_) λh18 h18'=>?_
 ·have hS:M.numS t=-n:=by rw[hN];exact M.a9c (by rw[hT];have:=h18';omega)
  refine Js.region<|Qm rfl<|Qq (p_neg (r:=-n) rfl (by rw[Int.zero_sub];exact IntWalk.i64_in _ (by omega)))<|Qa rfl<|zJ<|zS<|Qm rfl<|zv rfl (λw hw=>zq2 (-n) (ok_ hw))<|Qm rfl<|Qq (a2f und_9 rfl rfl)<|JL.nil ?_
  refine zi (λh19 h19'=>?_) λh19 h19'=>?_
  ·have hE:=M.a8m (s:=t) (by rw[hS];simpa using h19)
   refine zS<|Qa rfl<|Qa rfl<|JL.nil ?_
   refine zR x13 ?_
   first|(rw[hE];rfl)|(rw[hE,hS];rfl)
  have hE:=M.a3m hl9 hdg (by rw[hS];simpa using h19)
  refine Js.skip<|zS<|Qm rfl<|Qa rfl<|Qa rfl<|JL.nil ?_
  refine zR x13 ?_
  first|(rw[hE];rfl)|(rw[hE,hS];rfl)
 have hS:M.numS t=n:=by rw[hN];exact M.a9k (by rw[hT];have:=h18';omega)
 refine Js.skip<|Js.seq<|zS<|Qm rfl<|zv rfl (λw hw=>zq2 n (ok_ hw))<|Qm rfl<|Qq (a2f und_9 rfl rfl)<|JL.nil ?_
 refine zi (λh20 h20'=>?_) λh20 h20'=>?_
 ·have hE:=M.a8m (s:=t) (by rw[hS];simpa using h20)
  refine zS<|Qa rfl<|Qa rfl<|JL.nil ?_
  refine zR x13 ?_
  first|(rw[hE];rfl)|(rw[hE,hS];rfl)
 have hE:=M.a3m hl9 hdg (by rw[hS];simpa using h20)
 refine Js.skip<|zS<|Qm rfl<|Qa rfl<|Qa rfl<|JL.nil ?_
 refine zR x13 ?_
 first|(rw[hE];rfl)|(rw[hE,hS];rfl)
theorem zq9(s sep:List UInt8){w:World}(r0:s.length<=4194304:=by exact om_)(r1:sep.length<=4194304:=by exact om_):RetV Tryz.prog 108 [.string (sB s),.string (sB sep)] w (.tuple #[.string (sB ((M.cutS s sep).1)),.string (sB ((M.cutS s sep).2.1)),.bool ((M.cutS s sep).2.2)]):=by
 refine enter @Tryz.func108 @Tryz.ntmps108 rfl rfl ?_
 refine zent ?_
 refine zS<|Qa rfl<|Qa rfl<|Qa rfl<|zJ<|zS<|Qa rfl<|JL.nil<|Js.block ?_
 refine zl [0,1] (λF U l os u m=>∃ (k:Nat),l=F [(7,.int .i64 (k:Int))]/\os=U []/\(k<=s.length + 1)/\(∀ i,i < k->(s.drop i).take sep.length≠sep)/\m=s.length + 1 - k) ⟨0,rfl,rfl,zt,by exact λi h=>absurd h (by omega),rfl⟩ ?_
 rintro _ _ u1 _ ⟨k,rfl,rfl,hk,hn,rfl⟩ x1
 refine zn ?_
 refine Js.seq<|zS<|Qm rfl<|Qm rfl<|Qq (a0t und_9 rfl)<|Qp rfl rfl<|Qm rfl<|Qq (a0t und_9 rfl)<|Qk rfl rfl<|JL.nil ?_
 refine zi (λh2 h2'=>?_) λh2 h2'=>?_
 ·have hks:k + sep.length<=s.length:=by have:=h2';omega
  refine Js.skip<|Js.seq<|Js.block<|zS<|Qm rfl<|Qm rfl<|Qm rfl<|Qm rfl<|Qq (a0t und_9 rfl)<|Qp rfl rfl<|Qq (p_midS (i:=k) (j:=k + sep.length) und_9 rfl rfl rfl (by omega) (by omega))<|Qm rfl<|Qq (a0w und_9 rfl rfl)<|JL.nil ?_
  refine zi (λh3 h3'=>?_) λh3 h3'=>?_
  ·have hE:=M.a6v hks (by have h9:=h3;simp at h9;exact h9) hn
   refine Js.seq ?_
   refine zdr [] ?_
   refine jM 0 rfl rfl ?_
   refine jM 1 rfl rfl ?_
   refine JH.p 2 rfl (a4o (i:=k) und_9 rfl rfl (by omega)) ?_
   refine jM 3 rfl rfl ?_
   refine jM 4 rfl rfl ?_
   refine jM 5 rfl rfl ?_
   refine JH.p 6 rfl (a0t und_9 rfl) ?_
   refine JH.p 7 rfl (p_add rfl rfl (IntWalk.i64_in _ (by omega))) ?_
   refine JH.p 8 rfl (a4m (i:=k + sep.length) und_9 rfl rfl (by omega)) ?_
   refine jA 9 rfl rfl ?_
   refine jA 10 rfl rfl ?_
   refine jA 11 rfl rfl ?_
   refine yd ?_
   refine zR x1 ?_
   rw[hE];rfl
  have hn2:=M.b4f hn (by have h9:=h3;simp at h9;exact h9)
  refine Js.skip<|Js.blockEnd<|Js.region<|Qm rfl<|Qp rfl rfl<|Qa rfl<|JL.nil ?_
  exact zag ⟨k + 1,rfl,rfl,zt,by exact hn2,rfl⟩ x1
 have hE:=M.cutS_no (k:=k) (by have:=h2';omega) hn
 refine zx ?_
 refine zS<|Qm rfl<|Qa rfl<|Qa rfl<|Qa rfl<|JL.nil ?_
 refine zR x1 ?_
 rw[hE];rfl
theorem zq57(s:List UInt8){w:World}(r0:s.length<=4194304:=by exact om_):Ret Tryz.prog 51 [.string (sB s)] w (Ty.strs 9 (M.split 32 s)):=by
 refine enter @Tryz.func51 @Tryz.ntmps51 rfl rfl ?_
 refine zent ?_
 refine zS<|Qa rfl<|zN<|zbs λb1=>?_
 refine Qa rfl<|JL.nil<|Js.block ?_
 refine zl [] (λF U l os u m=>∃ (cur:List UInt8) (out:List (List UInt8)) (A3_3:Option Addr) (c3_3:Nat) (g3_3:List Nat),l=F [(0,.string (sB cur)),(3,.slice A3_3 out.length c3_3)]/\os=U [some (rowO 9 1 (.slice A3_3 out.length c3_3) out.length (txs_ out) g3_3)]/\(out++M.split 32 cur=M.split 32 s)/\(cur.length<=s.length)/\(out.length<=c3_3)/\(c3_3<=9223372036854775807)/\m=cur.length) ⟨s,[],_,_,_,rfl,rfl,by rfl,by exact Nat.le_refl _,zu,zu,rfl⟩ ?_
 rintro _ _ u3 _ ⟨cur,out,A3_3,c3_3,g3_3,rfl,rfl,hP,hl,f3_2,f3_3,rfl⟩ x3
 refine zn ?_
 have hl3:=M.parts_len hP
 have hcl:=M.a3c cur [32]
 refine Js.block<|zS<|Qm rfl<|zv rfl (λw hw=>zq9 cur ([32]:List UInt8))<|Qm rfl<|Qx rfl rfl<|Qx rfl rfl<|Qx rfl rfl<|Qa rfl<|Qa rfl<|Qa rfl<|zN<|Qm rfl<|Qm rfl ?_
 refine zbs λb4=>?_
 refine JL.e (a0g (i:=1) (n':=(out++([(M.cutS cur ([32]:List UInt8)).1])).length) (vs':=txs_ (out++([(M.cutS cur ([32]:List UInt8)).1]))) el_31 rfl rfl rfl rfl (a0k (i:=0) a9z rfl rfl) (by omega) (by omega) ln2_ (by first|rfl|(simp[txs_];done))) ?_
 rintro v6 _ _ ⟨⟨g7,rfl⟩,rfl⟩ _
 refine JL.fact (row_form' (i:=1) rfl) (λhf8=>?_)
 obtain⟨A8,c8,rfl,bl8,bh8⟩:=hf8
 refine znl ?_
 refine Qa rfl<|zJ<|zS<|Qm rfl<|Qt rfl<|JL.nil ?_
 refine zi (λh9 h9'=>?_) λh9 h9'=>?_
 ·have hE:=M.c0i hP (by simpa using h9)
  have hq0:(out++([(M.cutS cur ([32]:List UInt8)).1]))=M.split 32 s:=by exact hE
  refine zS<|Qm rfl<|Qa rfl<|JL.nil ?_
  exact zro x3 (g:=by exact(b3t (ys:=out++([(M.cutS cur ([32]:List UInt8)).1])) po_ (by assumption) (by rfl)))
 have hP2:=M.c0t hP (by simpa using h9)
 have hP3:=hP2.2
 refine Js.skip<|Js.region<|Qm rfl<|Qa rfl<|JL.nil<|Js.blockEnd ?_
 refine zd [1] rfl λu10 x10=>?_
 exact zag ⟨(M.cutS cur ([32]:List UInt8)).2.1,out++([(M.cutS cur ([32]:List UInt8)).1]),_,_,_,rfl,rfl,by exact hP2.1,by omega,zu,zu,rfl⟩ (x3.trans x10)
theorem zq31(s:List UInt8){w:World}(h_tab:tabT.ok w undef)(r0:s.length<=4194304:=by exact om_):Ret Tryz.prog 189 [.string (sB s)] w (Ty.tup [Ty.ints 2 ((M.nums s).1),Ty.bool ((M.nums s).2)]):=by
 refine enter @Tryz.func189 @Tryz.ntmps189 rfl rfl ?_
 refine zent ?_
 refine zS<|Qa rfl<|Qa rfl<|zN<|zbs λb1=>?_
 refine Qa rfl<|JL.nil<|Js.block ?_
 refine zl [] (λF U l os u m=>∃ (cur:List UInt8) (out:List Int) (A3_4:Option Addr) (c3_4:Nat) (g3_4:List Nat),l=F [(0,.string (sB cur)),(4,.slice A3_4 out.length c3_4)]/\os=U [some (rowO 2 1 (.slice A3_4 out.length c3_4) out.length (ints_ out) g3_4)]/\(M.NumsI s cur out)/\(cur.length<=s.length)/\(out.length<=c3_4)/\(c3_4<=9223372036854775807)/\m=cur.length) ⟨s,[],_,_,_,rfl,rfl,by exact M.NumsI.zero s,by exact Nat.le_refl _,zu,zu,rfl⟩ ?_
 rintro _ _ u3 _ ⟨cur,out,A3_4,c3_4,g3_4,rfl,rfl,hP,hl,f3_2,f3_3,rfl⟩ x3
 refine zn ?_
 have hl3:=hP.len
 have hcl:=M.a3c cur [44]
 refine Js.block<|zS<|Qm rfl<|zv rfl (λw hw=>zq9 cur ([44]:List UInt8))<|Qm rfl<|Qx rfl rfl<|Qx rfl rfl<|Qx rfl rfl<|Qa rfl<|Qa rfl<|Qa rfl<|zN<|Qm rfl<|zv rfl (λw hw=>zq11 ((M.cutS cur ([44]:List UInt8)).1) (ok_ hw)) ?_
 refine Qm rfl<|Qx rfl rfl<|Qx rfl rfl<|Qa rfl<|Qa rfl<|zJ<|zS<|Qm rfl<|Qt rfl<|JL.nil ?_
 refine zi (λh4 h4'=>?_) λh4 h4'=>?_
 ·have hE:=M.b6z (hP.bad (by simpa using h4))
  have hq0:[]=(M.nums s).1:=by first|(rw[hE];done)
  have hq1:false=(M.nums s).2:=by first|(rw[hE];done)
  refine zS<|Qa rfl<|Qa rfl<|JL.nil ?_
  exact zro x3
 have hn9:(M.num (M.cutS cur [44]).1).2=true:=by simpa using h4
 refine Js.skip<|zS<|Qm rfl<|Qm rfl<|zbs λb5=>?_
 refine JL.e (a0g (i:=1) (n':=(out++([((M.num ((M.cutS cur ([44]:List UInt8)).1)).1)])).length) (vs':=ints_ (out++([((M.num ((M.cutS cur ([44]:List UInt8)).1)).1)]))) el_26 rfl rfl rfl rfl (a0k (i:=0) a1h rfl rfl) (by omega) (by omega) ln2_ (by simp[ints_])) ?_
 rintro v7 _ _ ⟨⟨g8,rfl⟩,rfl⟩ _
 refine JL.fact (row_form' (i:=1) rfl) (λhf9=>?_)
 obtain⟨A9,c9,rfl,bl9,bh9⟩:=hf9
 refine znl ?_
 refine Qa rfl<|zJ<|zS<|Qm rfl<|Qt rfl<|JL.nil ?_
 refine zi (λh10 h10'=>?_) λh10 h10'=>?_
 ·have hE:=hP.last hn9 (by simpa using h10)
  have hq0:(out++([((M.num ((M.cutS cur ([44]:List UInt8)).1)).1)]))=(M.nums s).1:=by first|(rw[hE];done)
  have hq1:true=(M.nums s).2:=by first|(rw[hE];done)
  refine zS<|Qm rfl<|Qa rfl<|Qa rfl<|JL.nil ?_
  exact zro x3
 have hP2:=hP.more hn9 (by simpa using h10)
 have hP3:=hP2.2
 refine Js.skip<|Js.region<|Qm rfl<|Qa rfl<|JL.nil<|Js.blockEnd ?_
 refine zd [1] rfl λu11 x11=>?_
 exact zag ⟨(M.cutS cur ([44]:List UInt8)).2.1,out++([((M.num ((M.cutS cur ([44]:List UInt8)).1)).1)]),_,_,_,rfl,rfl,by exact hP2.1,by omega,zu,zu,rfl⟩ (x3.trans x11)
theorem zq104(y:List UInt8){w:World}  : RetV Tryz.prog 213 [.string (sB y)] w (.tuple #[.int .i64 ((M.namedBy M.capNames y).1),.int .i64 ((M.namedBy M.capNames y).2)]):=by
 refine enter @Tryz.func213 @Tryz.ntmps213 rfl rfl ?_
 refine zent ?_
 refine zS<|Qa rfl<|Qa rfl<|zJ<|zS<|Qa rfl<|JL.nil<|Js.block ?_
 refine zl [0] (λF U l os u m=>∃ (k:Nat),l=F [(4,.int .i64 (k:Int))]/\os=U []/\(k<=4)/\(M.Nix M.capNames y k)/\m=4 - k) ⟨0,rfl,rfl,zt,by exact M.Nix.zero _ _,rfl⟩ ?_
 rintro _ _ u1 _ ⟨k,rfl,rfl,hk,hN,rfl⟩ x1
 refine zn ?_
 refine Js.seq<|zS<|Qm rfl<|Qk rfl rfl<|JL.nil ?_
 refine zi (λh2 h2'=>?_) λh2 h2'=>?_
 ·have hY:=M.cap_at (k:=k) (by have:=h2';omega)
  refine Js.skip<|Js.seq<|Js.block<|zS<|Qm rfl<|zv rfl (λw hw=>zq51 (k:Int))<|Qm rfl<|Qq (a0w und_9 rfl rfl)<|JL.nil ?_
  refine zi (λh3 h3'=>?_) λh3 h3'=>?_
  ·have hE:=M.b4z hN hY (by simpa using h3)
   refine zS<|Qm rfl<|Qa rfl<|Qa rfl<|JL.nil ?_
   refine zR x1 ?_
   rw[hE];rfl
  have hN2:=hN.step hY (by simpa using h3)
  refine Js.skip<|Js.blockEnd<|Js.region<|Qm rfl<|Qp rfl rfl<|Qa rfl<|JL.nil ?_
  exact zag ⟨k + 1,rfl,rfl,zt,by exact hN2,rfl⟩ x1
 have hE:=M.b1j hN (show 4<=k by have:=h2';omega)
 refine zx ?_
 refine zS<|Qa rfl<|Qa rfl<|JL.nil ?_
 refine zR x1 ?_
 rw[hE];rfl
theorem zq58(c0x:M.Rul)(c0y:List M.Prb)(c0z:List (List UInt8×Int)){Ax_9:Option Addr}{cx_9:Nat}{gx_9:List Nat}{bx_10:Nat}(y t:List UInt8){bx:Nat}{w:World}(hb:Bw w [boxO bx [.int .i64 c0x.pits,.int .i64 c0x.seeds,.bool c0x.stores,.bool c0x.skip,.bool c0x.relay,.bool c0x.feed,.bool c0x.again,.int .i64 c0x.capture,.int .i64 c0x.slam,.slice Ax_9 c0y.length cx_9,.map (some bx_10)] 244,rowO 239 3 (.slice Ax_9 c0y.length cx_9) c0y.length (fltV vcProblem c0y) gx_9,mapS bx_10 c0z])(h_tab:tabT.ok (offW w (([boxO bx [.int .i64 c0x.pits,.int .i64 c0x.seeds,.bool c0x.stores,.bool c0x.skip,.bool c0x.relay,.bool c0x.feed,.bool c0x.again,.int .i64 c0x.capture,.int .i64 c0x.slam,.slice Ax_9 c0y.length cx_9,.map (some bx_10)] 244,rowO 239 3 (.slice Ax_9 c0y.length cx_9) c0y.length (fltV vcProblem c0y) gx_9,mapS bx_10 c0z]:List Own).flatMap (·.fp))) undef)(bd0:c0y.length<=cx_9:=by exact om_)(bd1:cx_9<=9223372036854775807:=by exact om_)(r0:M.isNum y=true:=by exact om_)(r1:t.length<=4194304:=by exact om_):RetB Tryz.prog 212 [.pointer (some ⟨bx,0,none⟩),.string (sB y),.string (sB t)] w [boxO bx [.int .i64 c0x.pits,.int .i64 c0x.seeds,.bool c0x.stores,.bool c0x.skip,.bool c0x.relay,.bool c0x.feed,.bool c0x.again,.int .i64 c0x.capture,.int .i64 c0x.slam,.slice Ax_9 c0y.length cx_9,.map (some bx_10)] 244,rowO 239 3 (.slice Ax_9 c0y.length cx_9) c0y.length (fltV vcProblem c0y) gx_9,mapS bx_10 c0z] (λv bs'=>∃ (Axx_9:Option Addr) (cxx_9:Nat) (gxx_9:List Nat),v=.int .i64 ((M.valP y t).2)/\bs'=[boxO bx [.int .i64 ((M.valR c0x y t).pits),.int .i64 ((M.valR c0x y t).seeds),.bool ((M.valR c0x y t).stores),.bool ((M.valR c0x y t).skip),.bool ((M.valR c0x y t).relay),.bool ((M.valR c0x y t).feed),.bool ((M.valR c0x y t).again),.int .i64 ((M.valR c0x y t).capture),.int .i64 ((M.valR c0x y t).slam),.slice Axx_9 c0y.length cxx_9,.map (some bx_10)] 244,rowO 239 3 (.slice Axx_9 c0y.length cxx_9) c0y.length (fltV vcProblem c0y) gxx_9,mapS bx_10 c0z]/\c0y.length<=cxx_9/\cxx_9<=9223372036854775807):=by
 have hnb:=M.num_bd t
 refine enterB hb @Tryz.func212 @Tryz.ntmps212 rfl rfl ?_
 refine zent ?_
 refine Js.trashE ?_
 refine zn ?_
 refine zS<|Qa rfl<|zN<|Qa rfl<|Qa rfl<|zJ<|zS<|Qm rfl<|JL.nil<|Js.block<|zS<|Qq (a0w und_9 rfl rfl)<|Qa rfl<|JL.nil ?_
 refine zi (λh1 h1'=>?_) λh1 h1'=>?_
 ·have hy9:y=M.captT:=by have h9:=h1;simp at h9;exact h9
  refine Js.region<|Qm rfl<|zv rfl (λw hw=>zq104 t)<|Qm rfl<|Qx rfl rfl<|Qx rfl rfl<|Qa rfl<|Qa rfl<|JL.nil<|Js.blockEnd<|Js.seq<|zS<|Qm rfl<|Qd rfl rfl ?_
  refine JL.nil ?_
  refine zi (λh2 h2'=>?_) λh2 h2'=>?_
  ·have hV:=M.valP_c3 hy9 (by simpa using h2)
   have hR:=M.b8a (r:=c0x) hV (by decide)
   refine zS<|Qa rfl<|JL.nil ?_
   refine zrb [0,0,0] hb (Up.refl _ _) ?_
   have hE:(.int .i64 4:Value)=.int .i64 ((M.valP y t).2):=by first|rfl|(rw[hV];done)|(rw[hR];done)|(rw[hV];rfl)|(rw[hR];rfl)
   have hE100:(M.valR c0x y t)=c0x:=by first|rfl|(rw[hV];done)|(rw[hR];done)|(rw[hV];rfl)|(rw[hR];rfl)
   refine⟨Ax_9,cx_9,gx_9,hE, ?_, ?_, ?_⟩
   · rw[hE100]
   all_goals (first|omega|(simp only[hE100];omega)|(simp[hE100];done))
  have hV:=M.valP_c0 hy9 (by simpa using h2)
  have hR:=M.valR_y (r:=c0x) hV
  refine Js.skip<|zS<|Qm rfl<|Qc rfl<|Qf fh rfl<|Qm rfl<|zv rfl (λw hw=>zq24 c0x y ⟨_,_,[.int .i64 c0x.pits,.int .i64 c0x.seeds,.bool c0x.stores,.bool c0x.skip,.bool c0x.relay,.bool c0x.feed,.bool c0x.again,.int .i64 c0x.capture,.int .i64 c0x.slam],rfl,⟨rfl,rfl,rfl,rfl,rfl,rfl,rfl,rfl,rfl,trivial⟩,Mem.boxR (i:=0) rfl 0 9 _ hw⟩)<|Qm rfl<|Qc rfl ?_
  refine JL.s (a7j (i:=0) (c':=[.int .i64 ((M.setNum c0x y ((M.namedBy M.capNames t).1)).pits),.int .i64 ((M.setNum c0x y ((M.namedBy M.capNames t).1)).seeds),.bool ((M.setNum c0x y ((M.namedBy M.capNames t).1)).stores),.bool ((M.setNum c0x y ((M.namedBy M.capNames t).1)).skip),.bool ((M.setNum c0x y ((M.namedBy M.capNames t).1)).relay),.bool ((M.setNum c0x y ((M.namedBy M.capNames t).1)).feed),.bool ((M.setNum c0x y ((M.namedBy M.capNames t).1)).again),.int .i64 ((M.setNum c0x y ((M.namedBy M.capNames t).1)).capture),.int .i64 ((M.setNum c0x y ((M.namedBy M.capNames t).1)).slam),.slice Ax_9 c0y.length cx_9,.map (some bx_10)]) ty_2.h rfl rfl rfl rfl rfl (by have:=b2b y;simp only[List.length_cons,List.length_nil];omega) (b7c r0)) ?_
  rintro _ _ _ ⟨rfl,rfl⟩ _
  refine znl ?_
  refine zN<|Qa rfl<|JL.nil ?_
  refine zrb [0,0,0] hb (Up.refl _ _) ?_
  have hE:(.int .i64 0:Value)=.int .i64 ((M.valP y t).2):=by first|rfl|(rw[hV];done)|(rw[hR];done)|(rw[hV];rfl)|(rw[hR];rfl)
  have hE100:(M.valR c0x y t)=(M.setNum c0x y ((M.namedBy M.capNames t).1)):=by first|rfl|(rw[hV];done)|(rw[hR];done)|(rw[hV];rfl)|(rw[hR];rfl)
  refine⟨Ax_9,cx_9,gx_9,hE, ?_, ?_, ?_⟩
  · rw[hE100]
  all_goals (first|omega|(simp only[hE100];omega)|(simp[hE100];done))
 have hc9:¬ y=M.captT:=by have h9:=h1;simp at h9;exact h9
 refine zS<|Qq (a0w und_9 rfl rfl)<|Qa rfl<|JL.nil ?_
 refine zi (λh3 h3'=>?_) λh3 h3'=>?_
 ·have hy9:y=M.slamT:=by have h9:=h3;simp at h9;exact h9
  refine Js.region<|Qm rfl<|zv rfl (λw hw=>zq102 t)<|Qm rfl<|Qx rfl rfl<|Qx rfl rfl<|Qa rfl<|Qa rfl<|JL.nil<|Js.blockEnd<|Js.seq<|zS<|Qm rfl<|Qd rfl rfl ?_
  refine JL.nil ?_
  refine zi (λh4 h4'=>?_) λh4 h4'=>?_
  ·have hV:=M.valP_s3 hy9 (by simpa using h4)
   have hR:=M.b8a (r:=c0x) hV (by decide)
   refine zS<|Qa rfl<|JL.nil ?_
   refine zrb [0,0,0] hb (Up.refl _ _) ?_
   have hE:(.int .i64 4:Value)=.int .i64 ((M.valP y t).2):=by first|rfl|(rw[hV];done)|(rw[hR];done)|(rw[hV];rfl)|(rw[hR];rfl)
   have hE100:(M.valR c0x y t)=c0x:=by first|rfl|(rw[hV];done)|(rw[hR];done)|(rw[hV];rfl)|(rw[hR];rfl)
   refine⟨Ax_9,cx_9,gx_9,hE, ?_, ?_, ?_⟩
   · rw[hE100]
   all_goals (first|omega|(simp only[hE100];omega)|(simp[hE100];done))
  have hV:=M.valP_s0 hy9 (by simpa using h4)
  have hR:=M.valR_y (r:=c0x) hV
  refine Js.skip<|zS<|Qm rfl<|Qc rfl<|Qf fh rfl<|Qm rfl<|zv rfl (λw hw=>zq24 c0x y ⟨_,_,[.int .i64 c0x.pits,.int .i64 c0x.seeds,.bool c0x.stores,.bool c0x.skip,.bool c0x.relay,.bool c0x.feed,.bool c0x.again,.int .i64 c0x.capture,.int .i64 c0x.slam],rfl,⟨rfl,rfl,rfl,rfl,rfl,rfl,rfl,rfl,rfl,trivial⟩,Mem.boxR (i:=0) rfl 0 9 _ hw⟩)<|Qm rfl<|Qc rfl ?_
  refine JL.s (a7j (i:=0) (c':=[.int .i64 ((M.setNum c0x y ((M.namedBy M.slamNames t).1)).pits),.int .i64 ((M.setNum c0x y ((M.namedBy M.slamNames t).1)).seeds),.bool ((M.setNum c0x y ((M.namedBy M.slamNames t).1)).stores),.bool ((M.setNum c0x y ((M.namedBy M.slamNames t).1)).skip),.bool ((M.setNum c0x y ((M.namedBy M.slamNames t).1)).relay),.bool ((M.setNum c0x y ((M.namedBy M.slamNames t).1)).feed),.bool ((M.setNum c0x y ((M.namedBy M.slamNames t).1)).again),.int .i64 ((M.setNum c0x y ((M.namedBy M.slamNames t).1)).capture),.int .i64 ((M.setNum c0x y ((M.namedBy M.slamNames t).1)).slam),.slice Ax_9 c0y.length cx_9,.map (some bx_10)]) ty_2.h rfl rfl rfl rfl rfl (by have:=b2b y;simp only[List.length_cons,List.length_nil];omega) (b7c r0)) ?_
  rintro _ _ _ ⟨rfl,rfl⟩ _
  refine znl ?_
  refine zN<|Qa rfl<|JL.nil ?_
  refine zrb [0,0,0] hb (Up.refl _ _) ?_
  have hE:(.int .i64 0:Value)=.int .i64 ((M.valP y t).2):=by first|rfl|(rw[hV];done)|(rw[hR];done)|(rw[hV];rfl)|(rw[hR];rfl)
  have hE100:(M.valR c0x y t)=(M.setNum c0x y ((M.namedBy M.slamNames t).1)):=by first|rfl|(rw[hV];done)|(rw[hR];done)|(rw[hV];rfl)|(rw[hR];rfl)
  refine⟨Ax_9,cx_9,gx_9,hE, ?_, ?_, ?_⟩
  · rw[hE100]
  all_goals (first|omega|(simp only[hE100];omega)|(simp[hE100];done))
 have hs9:¬ y=M.slamT:=by have h9:=h3;simp at h9;exact h9
 refine zS<|Qm rfl<|zv rfl (λw hw=>zq11 t (ok_ hw))<|Qm rfl<|Qx rfl rfl<|Qx rfl rfl<|Qa rfl<|Qa rfl<|zJ<|zS<|Qm rfl<|Qt rfl<|JL.nil ?_
 refine zi (λh5 h5'=>?_) λh5 h5'=>?_
 ·have hV:=M.valP_n3 hc9 hs9 (by simpa using h5)
  have hR:=M.b8a (r:=c0x) hV (by decide)
  refine zS<|Qa rfl<|JL.nil ?_
  refine zrb [0,0,0] hb (Up.refl _ _) ?_
  have hE:(.int .i64 3:Value)=.int .i64 ((M.valP y t).2):=by first|rfl|(rw[hV];done)|(rw[hR];done)|(rw[hV];rfl)|(rw[hR];rfl)
  have hE100:(M.valR c0x y t)=c0x:=by first|rfl|(rw[hV];done)|(rw[hR];done)|(rw[hV];rfl)|(rw[hR];rfl)
  refine⟨Ax_9,cx_9,gx_9,hE, ?_, ?_, ?_⟩
  · rw[hE100]
  all_goals (first|omega|(simp only[hE100];omega)|(simp[hE100];done))
 have hn9:(M.num t).2=true:=by simpa using h5
 refine Js.skip<|zS<|Qm rfl<|Qa rfl<|zN<|Qm rfl<|Qq (a0w und_9 rfl rfl)<|Qm rfl<|zg (Gd.t1 rfl rfl rfl) (λhc=>a0e rfl)<|zgv (Gd.t1 rfl rfl rfl) (λhc=>(a1o (gh hc rfl) rfl rfl)) (λhc=>(λw hw=>zq7 ((M.num t).1) 2 8)) ?_
 refine zg (Gd.t1 rfl rfl rfl) (λhc=>p_not (gh hc rfl))<|Qq (a0d rfl rfl rfl)<|Qm rfl<|zg (Gd.f1 rfl rfl rfl) (λhc=>a0e rfl)<|zg (Gd.f1 rfl rfl rfl) (λhc=>a0w und_9 (gh hc rfl) rfl)<|zg (Gd.f1 rfl rfl rfl) (λhc=>a0e (gh hc rfl))<|zg (Gd.t2 rfl rfl rfl) (λhc=>a0e rfl)<|zgv (Gd.t2 rfl rfl rfl) (λhc=>(a1o (gh hc rfl) rfl rfl)) (λhc=>(λw hw=>zq7 ((M.num t).1) 1 6)) ?_
 refine zg (Gd.t2 rfl rfl rfl) (λhc=>p_not (gh hc rfl))<|zg (Gd.f1 rfl rfl rfl) (λhc=>a0d (gh hc rfl) (gvl rfl hc) rfl)<|Qq (a0j rfl rfl rfl)<|JL.nil ?_
 refine zi (λh6 h6'=>?_) λh6 h6'=>?_
 ·have hV:=M.valP_n4 hc9 hs9 hn9 (by have h9:=h6;simp only[Bool.or_eq_true,Bool.and_eq_true,decide_eq_true_eq,Bool.not_eq_true'] at h9;exact h9)
  have hR:=M.b8a (r:=c0x) hV (by decide)
  refine zS<|Qa rfl<|JL.nil ?_
  refine zrb [0,0,0] hb (Up.refl _ _) ?_
  have hE:(.int .i64 4:Value)=.int .i64 ((M.valP y t).2):=by first|rfl|(rw[hV];done)|(rw[hR];done)|(rw[hV];rfl)|(rw[hR];rfl)
  have hE100:(M.valR c0x y t)=c0x:=by first|rfl|(rw[hV];done)|(rw[hR];done)|(rw[hV];rfl)|(rw[hR];rfl)
  refine⟨Ax_9,cx_9,gx_9,hE, ?_, ?_, ?_⟩
  · rw[hE100]
  all_goals (first|omega|(simp only[hE100];omega)|(simp[hE100];done))
 have hV:=M.valP_n0 hc9 hs9 hn9 (by have h9:=h6;intro h8;have h7:=Bool.eq_false_iff.1 h9;apply h7;simp only[Bool.or_eq_true,Bool.and_eq_true,decide_eq_true_eq,Bool.not_eq_true'];exact h8)
 have hR:=M.valR_y (r:=c0x) hV
 refine Js.skip<|Js.blockEnd<|Js.seq<|zS<|Qm rfl<|Qd rfl rfl<|JL.nil ?_
 refine Js.condF rfl (by decide) ?_
 refine Js.skip<|zS<|Qm rfl<|Qc rfl<|Qf fh rfl<|Qm rfl<|zv rfl (λw hw=>zq24 c0x y ⟨_,_,[.int .i64 c0x.pits,.int .i64 c0x.seeds,.bool c0x.stores,.bool c0x.skip,.bool c0x.relay,.bool c0x.feed,.bool c0x.again,.int .i64 c0x.capture,.int .i64 c0x.slam],rfl,⟨rfl,rfl,rfl,rfl,rfl,rfl,rfl,rfl,rfl,trivial⟩,Mem.boxR (i:=0) rfl 0 9 _ hw⟩)<|Qm rfl<|Qc rfl ?_
 refine JL.s (a7j (i:=0) (c':=[.int .i64 ((M.setNum c0x y ((M.num t).1)).pits),.int .i64 ((M.setNum c0x y ((M.num t).1)).seeds),.bool ((M.setNum c0x y ((M.num t).1)).stores),.bool ((M.setNum c0x y ((M.num t).1)).skip),.bool ((M.setNum c0x y ((M.num t).1)).relay),.bool ((M.setNum c0x y ((M.num t).1)).feed),.bool ((M.setNum c0x y ((M.num t).1)).again),.int .i64 ((M.setNum c0x y ((M.num t).1)).capture),.int .i64 ((M.setNum c0x y ((M.num t).1)).slam),.slice Ax_9 c0y.length cx_9,.map (some bx_10)]) ty_2.h rfl rfl rfl rfl rfl (by have:=b2b y;simp only[List.length_cons,List.length_nil];omega) (b7c r0)) ?_
 rintro _ _ _ ⟨rfl,rfl⟩ _
 refine znl ?_
 refine zN<|Qa rfl<|JL.nil ?_
 refine zrb [0,0,0] hb (Up.refl _ _) ?_
 have hE:(.int .i64 0:Value)=.int .i64 ((M.valP y t).2):=by first|rfl|(rw[hV];done)|(rw[hR];done)|(rw[hV];rfl)|(rw[hR];rfl)
 have hE100:(M.valR c0x y t)=(M.setNum c0x y ((M.num t).1)):=by first|rfl|(rw[hV];done)|(rw[hR];done)|(rw[hV];rfl)|(rw[hR];rfl)
 refine⟨Ax_9,cx_9,gx_9,hE, ?_, ?_, ?_⟩
 · rw[hE100]
 all_goals (first|omega|(simp only[hE100];omega)|(simp[hE100];done))
theorem zq105(c0x:M.Rul)(c0y:List M.Prb)(c0z:List (List UInt8×Int)){Ax_9:Option Addr}{cx_9:Nat}{gx_9:List Nat}{bx_10:Nat}(at1:Int)(wd:List UInt8){bx:Nat}{w:World}(hb:Bw w [boxO bx [.int .i64 c0x.pits,.int .i64 c0x.seeds,.bool c0x.stores,.bool c0x.skip,.bool c0x.relay,.bool c0x.feed,.bool c0x.again,.int .i64 c0x.capture,.int .i64 c0x.slam,.slice Ax_9 c0y.length cx_9,.map (some bx_10)] 244,rowO 239 3 (.slice Ax_9 c0y.length cx_9) c0y.length (fltV vcProblem c0y) gx_9,mapS bx_10 c0z])(h_tab:tabT.ok (offW w (([boxO bx [.int .i64 c0x.pits,.int .i64 c0x.seeds,.bool c0x.stores,.bool c0x.skip,.bool c0x.relay,.bool c0x.feed,.bool c0x.again,.int .i64 c0x.capture,.int .i64 c0x.slam,.slice Ax_9 c0y.length cx_9,.map (some bx_10)] 244,rowO 239 3 (.slice Ax_9 c0y.length cx_9) c0y.length (fltV vcProblem c0y) gx_9,mapS bx_10 c0z]:List Own).flatMap (·.fp))) undef)(bd0:c0y.length<=cx_9:=by exact om_)(bd1:cx_9<=9223372036854775807:=by exact om_)(r0:wd.length<=4194304:=by exact om_)(r1:c0y.length<=1000000:=by exact om_):RetB Tryz.prog 204 [.pointer (some ⟨bx,0,none⟩),.int .i64 at1,.string (sB wd)] w [boxO bx [.int .i64 c0x.pits,.int .i64 c0x.seeds,.bool c0x.stores,.bool c0x.skip,.bool c0x.relay,.bool c0x.feed,.bool c0x.again,.int .i64 c0x.capture,.int .i64 c0x.slam,.slice Ax_9 c0y.length cx_9,.map (some bx_10)] 244,rowO 239 3 (.slice Ax_9 c0y.length cx_9) c0y.length (fltV vcProblem c0y) gx_9,mapS bx_10 c0z] (λv bs'=>∃ (Axx_9:Option Addr) (cxx_9:Nat) (gxx_9:List Nat),v=.tuple #[]/\bs'=[boxO bx [.int .i64 (((M.rdW (M.Rdr.mk c0x c0y c0z) at1 wd).rules).pits),.int .i64 (((M.rdW (M.Rdr.mk c0x c0y c0z) at1 wd).rules).seeds),.bool (((M.rdW (M.Rdr.mk c0x c0y c0z) at1 wd).rules).stores),.bool (((M.rdW (M.Rdr.mk c0x c0y c0z) at1 wd).rules).skip),.bool (((M.rdW (M.Rdr.mk c0x c0y c0z) at1 wd).rules).relay),.bool (((M.rdW (M.Rdr.mk c0x c0y c0z) at1 wd).rules).feed),.bool (((M.rdW (M.Rdr.mk c0x c0y c0z) at1 wd).rules).again),.int .i64 (((M.rdW (M.Rdr.mk c0x c0y c0z) at1 wd).rules).capture),.int .i64 (((M.rdW (M.Rdr.mk c0x c0y c0z) at1 wd).rules).slam),.slice Axx_9 (((M.rdW (M.Rdr.mk c0x c0y c0z) at1 wd).problems).length) cxx_9,.map (some bx_10)] 244,rowO 239 3 (.slice Axx_9 (((M.rdW (M.Rdr.mk c0x c0y c0z) at1 wd).problems).length) cxx_9) (((M.rdW (M.Rdr.mk c0x c0y c0z) at1 wd).problems).length) (fltV vcProblem ((M.rdW (M.Rdr.mk c0x c0y c0z) at1 wd).problems)) gxx_9,mapS bx_10 ((M.rdW (M.Rdr.mk c0x c0y c0z) at1 wd).given)]/\((M.rdW (M.Rdr.mk c0x c0y c0z) at1 wd).problems).length<=cxx_9/\cxx_9<=9223372036854775807):=by
 have hcl:=M.a3c wd [61]
 refine enterB hb @Tryz.func204 @Tryz.ntmps204 rfl rfl ?_
 refine zent ?_
 refine Js.trashE ?_
 refine zn ?_
 refine zS<|Qm rfl<|zv rfl (λw hw=>zq9 wd ([61]:List UInt8))<|Qm rfl<|Qx rfl rfl<|Qx rfl rfl<|Qx rfl rfl<|Qa rfl<|Qa rfl<|Qa rfl<|zN<|Qa rfl<|zJ<|zS ?_
 refine Qm rfl<|Qc rfl<|Qf fh rfl<|Q0 0 rfl rfl rfl<|Qm rfl<|Qw (b3j (i:=2) (g:=c0z) (k:=((M.cutS wd ([61]:List UInt8)).1)) a5k rfl rfl rfl)<|Qm rfl<|Qx rfl rfl<|Qx rfl rfl<|Qa rfl<|Qa rfl<|JL.nil<|Js.block<|Js.seq ?_
 refine Js.seq ?_
 rcases Bool.eq_false_or_eq_true (M.isNum (M.cutS wd [61]).1) with h1|h1
 ·refine Js.region<|Qm rfl<|Qm rfl<|zg (Gd.t1 rfl rfl rfl) (λhc=>a0e rfl)<|zg (Gd.t1 rfl rfl rfl) (λhc=>a0n (gh hc rfl))<|zg (Gd.t1 rfl rfl rfl) (λhc=>a0b a3l.h (gh hc rfl))<|zg (Gd.t1 rfl rfl rfl) (λhc=>a0e rfl)<|zgv (Gd.t1 rfl rfl rfl) (λhc=>(a2d (gh hc rfl) (gh hc rfl))) (λhc=>(λw hw=>zq24 c0x ((M.cutS wd ([61]:List UInt8)).1) ⟨_,_,[.int .i64 c0x.pits,.int .i64 c0x.seeds,.bool c0x.stores,.bool c0x.skip,.bool c0x.relay,.bool c0x.feed,.bool c0x.again,.int .i64 c0x.capture,.int .i64 c0x.slam],rfl,⟨rfl,rfl,rfl,rfl,rfl,rfl,rfl,rfl,rfl,trivial⟩,Mem.boxR (i:=0) rfl 0 9 _ hw⟩ (r0:=h1))) ?_
  refine zg (Gd.t1 rfl rfl rfl) (λhc=>b6f @Tryz.underlying250 (gh hc rfl) rfl)<|Qq (a0d rfl rfl rfl)<|Qa rfl<|JL.nil ?_
  refine zi (λh2 h2'=>?_) λh2 h2'=>?_
  · exact absurd h2 (by simp)
  have q1:¬ ((M.cutS wd [61]).2.2=true/\M.isNum (M.cutS wd [61]).1=false):=by have h9:=h2;rintro⟨a,b⟩;first|(rw[h1] at b;exact absurd b (by decide))|(rw[a] at h9;exact absurd h9 (by decide))
  rcases Bool.eq_false_or_eq_true (M.isFlg (M.cutS wd [61]).1) with h3|h3
  ·refine Js.region<|Qm rfl<|Qt rfl<|Qm rfl<|zg (Gd.t1 rfl rfl rfl) (λhc=>a0e rfl)<|zg (Gd.t1 rfl rfl rfl) (λhc=>a0n (gh hc rfl))<|zg (Gd.t1 rfl rfl rfl) (λhc=>a0b a3l.h (gh hc rfl))<|zg (Gd.t1 rfl rfl rfl) (λhc=>a0e rfl)<|zgv (Gd.t1 rfl rfl rfl) (λhc=>(a2d (gh hc rfl) (gh hc rfl))) (λhc=>(λw hw=>zq15 c0x ((M.cutS wd ([61]:List UInt8)).1) ⟨_,_,[.int .i64 c0x.pits,.int .i64 c0x.seeds,.bool c0x.stores,.bool c0x.skip,.bool c0x.relay,.bool c0x.feed,.bool c0x.again,.int .i64 c0x.capture,.int .i64 c0x.slam],rfl,⟨rfl,rfl,rfl,rfl,rfl,rfl,rfl,rfl,rfl,trivial⟩,Mem.boxR (i:=0) rfl 0 9 _ hw⟩ (r0:=(M.a5b h3)))) ?_
   refine zg (Gd.t1 rfl rfl rfl) (λhc=>b6f @Tryz.underlying164 (gh hc rfl) rfl)<|Qq (a0d rfl rfl rfl)<|Qa rfl<|JL.nil ?_
   refine zi (λh4 h4'=>?_) λh4 h4'=>?_
   · exact absurd h4 (by simp)
   have q2:¬ ((M.cutS wd [61]).2.2=false/\M.isFlg (M.cutS wd [61]).1=false):=by have h9:=h4;rintro⟨a,b⟩;first|(rw[h3] at b;exact absurd b (by decide))|(rw[a] at h9;exact absurd h9 (by decide))
   refine zS<|Qm rfl<|Qa rfl<|JL.nil ?_
   refine zi (λh5 h5'=>?_) λh5 h5'=>?_
   ·have hE:=M.rdW_2 (x:=(M.Rdr.mk c0x c0y c0z)) (a:=at1) q1 q2 (by simpa using h5)
    refine Js.region<|Qa rfl<|JL.nil<|Js.blockEnd<|zS<|Qm rfl<|Qd rfl rfl<|JL.nil ?_
    refine Js.condT rfl (by decide) ?_
    refine Js.region<|Qm rfl<|Qm rfl<|Qc rfl<|Qf fh rfl<|Q0 0 rfl rfl rfl<|Qm rfl<|Qm rfl<|Qm rfl<|Qb ?_
    refine zbs λb6=>?_
    refine JL.e (a0g (i:=2) (n':=(c0y++[(M.Prb.mk 2 at1 wd)]).length) (vs':=fltV vcProblem (c0y++[(M.Prb.mk 2 at1 wd)])) a2z rfl rfl rfl rfl (a0k (i:=0) a2b rfl rfl) (by omega) (by omega) ln2_ (by first|rfl|exact a1l _ _ _|exact a1d _ _ _|(simp[fltV];done))) ?_
    rintro v8 _ _ ⟨⟨g9,rfl⟩,rfl⟩ _
    refine JL.fact (row_form' (i:=2) rfl) (λhf10=>?_)
    obtain⟨A10,c10,rfl,bl10,bh10⟩:=hf10
    refine znl ?_
    refine Qc rfl<|Qf fh rfl<|zw 1 rfl rfl rfl ?_
    refine JL.nil ?_
    refine zrbE [1,1,1] hb (Up.refl _ _) ?_
    have hE100:(M.rdW (M.Rdr.mk c0x c0y c0z) at1 wd).rules=c0x:=by first|rfl|(rw[hE];done)|(rw[hE];rfl)
    have hN1:((M.rdW (M.Rdr.mk c0x c0y c0z) at1 wd).problems).length=(c0y++[(M.Prb.mk 2 at1 wd)]).length:=by first|rfl|(rw[hE];done)|(rw[hE];rfl)
    have hE1:(M.rdW (M.Rdr.mk c0x c0y c0z) at1 wd).problems=(c0y++[(M.Prb.mk 2 at1 wd)]):=by first|rfl|(rw[hE];done)|(rw[hE];rfl)
    have hE2:(M.rdW (M.Rdr.mk c0x c0y c0z) at1 wd).given=c0z:=by first|rfl|(rw[hE];done)|(rw[hE];rfl)
    refine⟨A10,c10,g9,rfl, ?_, ?_, ?_⟩
    · first|rfl|(dsimp only;rw[hE100,hN1,hE1,hE2];done)|(dsimp only;rw[hE100,hN1,hE1,hE2];rfl)|(dsimp only;simp only[hE100,hN1,hE1,hE2])|(rw[hE100,hN1,hE1,hE2];done)|(rw[hE100,hN1,hE1,hE2];rfl)
    all_goals (try dsimp only)
    all_goals (first|omega|(simp only[hE100,hN1,hE1,hE2];omega)|(simp[hE100,hN1,hE1,hE2];done))
   have hm:M.mhas c0z (M.cutS wd [61]).1=false:=by simpa using h5
   refine zS<|Qm rfl<|Qa rfl<|JL.nil ?_
   refine zi (λh11 h11'=>?_) λh11 h11'=>?_
   ·have he:(M.cutS wd [61]).2.2=true:=by simpa using h11
    have hn:M.isNum (M.cutS wd [61]).1=true:=by cases h9:M.isNum (M.cutS wd [61]).1;exact absurd ⟨he,h9⟩ q1;rfl
    refine zS<|Qm rfl<|Qc rfl<|Qf fh rfl<|Q0 0 rfl rfl rfl<|Qm rfl<|Qm rfl ?_
    refine JL.s (a7b (i:=2) (g:=c0z) (k:=((M.cutS wd ([61]:List UInt8)).1)) (v:=at1) a5k rfl rfl rfl rfl (hm)) ?_
    rintro _ _ _ ⟨rfl,rfl⟩ _
    refine znl ?_
    refine zG<|Qm rfl<|Qm rfl<|Qm rfl<|zBB 3 sp_ rfl (λw hb _ hw=>zq58 c0x c0y (M.mput c0z ((M.cutS wd ([61]:List UInt8)).1) at1) ((M.cutS wd ([61]:List UInt8)).1) ((M.cutS wd ([61]:List UInt8)).2.1) hb (ok_ hw) (r0:=hn)) ?_
    rintro _ _ G12 ⟨A12x_9,c12x_9,g12x_9,rfl,rfl,bl12_0,bl12_1⟩
    refine znl ?_
    refine Qa rfl<|JL.nil<|Js.blockEnd<|zS<|Qm rfl<|Qd rfl rfl<|JL.nil ?_
    refine zi (λh13 h13'=>?_) λh13 h13'=>?_
    ·have hE:=M.rdW_n (x:=(M.Rdr.mk c0x c0y c0z)) (a:=at1) he hn hm rfl (by simpa using h13)
     refine Js.region<|Qm rfl<|Qm rfl<|Qc rfl<|Qf fh rfl<|Q0 0 rfl rfl rfl<|Qm rfl<|Qm rfl<|Qm rfl<|Qb ?_
     refine zbs λb14=>?_
     refine JL.e (a0g (i:=2) (n':=(c0y++([(M.Prb.mk ((M.valP ((M.cutS wd ([61]:List UInt8)).1) ((M.cutS wd ([61]:List UInt8)).2.1)).2) at1 wd)])).length) (vs':=fltV vcProblem (c0y++([(M.Prb.mk ((M.valP ((M.cutS wd ([61]:List UInt8)).1) ((M.cutS wd ([61]:List UInt8)).2.1)).2) at1 wd)]))) a2z rfl rfl rfl rfl (a0k (i:=0) a2b rfl rfl) (by omega) (by omega) ln2_ (by first|rfl|exact a1l _ _ _|exact a1d _ _ _|(simp[fltV];done))) ?_
     rintro v16 _ _ ⟨⟨g17,rfl⟩,rfl⟩ _
     refine JL.fact (row_form' (i:=2) rfl) (λhf18=>?_)
     obtain⟨A18,c18,rfl,bl18,bh18⟩:=hf18
     refine znl ?_
     refine Qc rfl<|Qf fh rfl<|zw 1 rfl rfl rfl ?_
     refine JL.nil ?_
     refine zrbE [1,1,1] hb (Up.refl _ _) ?_
     have hE100:(M.rdW (M.Rdr.mk c0x c0y c0z) at1 wd).rules=(M.valR c0x ((M.cutS wd ([61]:List UInt8)).1) ((M.cutS wd ([61]:List UInt8)).2.1)):=by first|rfl|(rw[hE];done)|(rw[hE];rfl)
     have hN1:((M.rdW (M.Rdr.mk c0x c0y c0z) at1 wd).problems).length=(c0y++([(M.Prb.mk ((M.valP ((M.cutS wd ([61]:List UInt8)).1) ((M.cutS wd ([61]:List UInt8)).2.1)).2) at1 wd)])).length:=by first|rfl|(rw[hE];done)|(rw[hE];rfl)
     have hE1:(M.rdW (M.Rdr.mk c0x c0y c0z) at1 wd).problems=(c0y++([(M.Prb.mk ((M.valP ((M.cutS wd ([61]:List UInt8)).1) ((M.cutS wd ([61]:List UInt8)).2.1)).2) at1 wd)])):=by first|rfl|(rw[hE];done)|(rw[hE];rfl)
     have hE2:(M.rdW (M.Rdr.mk c0x c0y c0z) at1 wd).given=(M.mput c0z ((M.cutS wd ([61]:List UInt8)).1) at1):=by first|rfl|(rw[hE];done)|(rw[hE];rfl)
     refine⟨A18,c18,g17,rfl, ?_, ?_, ?_⟩
     · first|rfl|(dsimp only;rw[hE100,hN1,hE1,hE2];done)|(dsimp only;rw[hE100,hN1,hE1,hE2];rfl)|(dsimp only;simp only[hE100,hN1,hE1,hE2])|(rw[hE100,hN1,hE1,hE2];done)|(rw[hE100,hN1,hE1,hE2];rfl)
     all_goals (try dsimp only)
     all_goals (first|omega|(simp only[hE100,hN1,hE1,hE2];omega)|(simp[hE100,hN1,hE1,hE2];done))
    have hE:=M.rdW_z (x:=(M.Rdr.mk c0x c0y c0z)) (a:=at1) he hn hm (by simpa using h13)
    refine Js.skip ?_
    refine zrbE [0,0,0] hb (Up.refl _ _) ?_
    have hE100:(M.rdW (M.Rdr.mk c0x c0y c0z) at1 wd).rules=(M.valR c0x ((M.cutS wd ([61]:List UInt8)).1) ((M.cutS wd ([61]:List UInt8)).2.1)):=by first|rfl|(rw[hE];done)|(rw[hE];rfl)
    have hN1:((M.rdW (M.Rdr.mk c0x c0y c0z) at1 wd).problems).length=c0y.length:=by first|rfl|(rw[hE];done)|(rw[hE];rfl)
    have hE1:(M.rdW (M.Rdr.mk c0x c0y c0z) at1 wd).problems=c0y:=by first|rfl|(rw[hE];done)|(rw[hE];rfl)
    have hE2:(M.rdW (M.Rdr.mk c0x c0y c0z) at1 wd).given=(M.mput c0z ((M.cutS wd ([61]:List UInt8)).1) at1):=by first|rfl|(rw[hE];done)|(rw[hE];rfl)
    refine⟨A12x_9,c12x_9,g12x_9,rfl, ?_, ?_, ?_⟩
    · first|rfl|(dsimp only;rw[hE100,hN1,hE1,hE2];done)|(dsimp only;rw[hE100,hN1,hE1,hE2];rfl)|(dsimp only;simp only[hE100,hN1,hE1,hE2])|(rw[hE100,hN1,hE1,hE2];done)|(rw[hE100,hN1,hE1,hE2];rfl)
    all_goals (try dsimp only)
    all_goals (first|omega|(simp only[hE100,hN1,hE1,hE2];omega)|(simp[hE100,hN1,hE1,hE2];done))
   have he:(M.cutS wd [61]).2.2=false:=by simpa using h11
   have hf:M.isFlg (M.cutS wd [61]).1=true:=by cases h9:M.isFlg (M.cutS wd [61]).1;exact absurd ⟨he,h9⟩ q2;rfl
   have hE:=M.rdW_f (x:=(M.Rdr.mk c0x c0y c0z)) (a:=at1) he hf hm
   refine zS<|Qm rfl<|Qc rfl<|Qf fh rfl<|Q0 0 rfl rfl rfl<|Qm rfl<|Qm rfl ?_
   refine JL.s (a7b (i:=2) (g:=c0z) (k:=((M.cutS wd ([61]:List UInt8)).1)) (v:=at1) a5k rfl rfl rfl rfl (hm)) ?_
   rintro _ _ _ ⟨rfl,rfl⟩ _
   refine znl ?_
   refine zG<|Qm rfl<|Qc rfl<|Qf fh rfl<|Qm rfl<|zv rfl (λw hw=>zq15 c0x ((M.cutS wd ([61]:List UInt8)).1) ⟨_,_,[.int .i64 c0x.pits,.int .i64 c0x.seeds,.bool c0x.stores,.bool c0x.skip,.bool c0x.relay,.bool c0x.feed,.bool c0x.again,.int .i64 c0x.capture,.int .i64 c0x.slam],rfl,⟨rfl,rfl,rfl,rfl,rfl,rfl,rfl,rfl,rfl,trivial⟩,Mem.boxR (i:=0) rfl 0 9 _ hw⟩ (r0:=(M.a5b hf)))<|Qc rfl ?_
   refine JL.s (a7j (i:=0) (c':=[.int .i64 ((M.setFlg c0x (M.cutS wd [61]).1).pits),.int .i64 ((M.setFlg c0x (M.cutS wd [61]).1).seeds),.bool ((M.setFlg c0x (M.cutS wd [61]).1).stores),.bool ((M.setFlg c0x (M.cutS wd [61]).1).skip),.bool ((M.setFlg c0x (M.cutS wd [61]).1).relay),.bool ((M.setFlg c0x (M.cutS wd [61]).1).feed),.bool ((M.setFlg c0x (M.cutS wd [61]).1).again),.int .i64 ((M.setFlg c0x (M.cutS wd [61]).1).capture),.int .i64 ((M.setFlg c0x (M.cutS wd [61]).1).slam),.slice Ax_9 c0y.length cx_9,.map (some bx_10)]) ty_4.h rfl rfl rfl rfl rfl (by have:=b5m hf;simp only[List.length_cons,List.length_nil];omega) (flg_set hf)) ?_
   rintro _ _ _ ⟨rfl,rfl⟩ _
   refine znl ?_
   refine JL.nil<|Js.blockEnd<|zS<|Qm rfl<|Qd rfl rfl<|JL.nil ?_
   refine Js.condF rfl (by decide) ?_
   refine Js.skip ?_
   refine zrbE [0,0,0] hb (Up.refl _ _) ?_
   have hE100:(M.rdW (M.Rdr.mk c0x c0y c0z) at1 wd).rules=(M.setFlg c0x (M.cutS wd [61]).1):=by first|rfl|(rw[hE];done)|(rw[hE];rfl)
   have hN1:((M.rdW (M.Rdr.mk c0x c0y c0z) at1 wd).problems).length=c0y.length:=by first|rfl|(rw[hE];done)|(rw[hE];rfl)
   have hE1:(M.rdW (M.Rdr.mk c0x c0y c0z) at1 wd).problems=c0y:=by first|rfl|(rw[hE];done)|(rw[hE];rfl)
   have hE2:(M.rdW (M.Rdr.mk c0x c0y c0z) at1 wd).given=(M.mput c0z ((M.cutS wd ([61]:List UInt8)).1) at1):=by first|rfl|(rw[hE];done)|(rw[hE];rfl)
   refine⟨Ax_9,cx_9,gx_9,rfl, ?_, ?_, ?_⟩
   · first|rfl|(dsimp only;rw[hE100,hN1,hE1,hE2];done)|(dsimp only;rw[hE100,hN1,hE1,hE2];rfl)|(dsimp only;simp only[hE100,hN1,hE1,hE2])|(rw[hE100,hN1,hE1,hE2];done)|(rw[hE100,hN1,hE1,hE2];rfl)
   all_goals (try dsimp only)
   all_goals (first|omega|(simp only[hE100,hN1,hE1,hE2];omega)|(simp[hE100,hN1,hE1,hE2];done))
  refine Js.region<|Qm rfl<|Qt rfl<|Qm rfl<|zg (Gd.t1 rfl rfl rfl) (λhc=>a0e rfl)<|zg (Gd.t1 rfl rfl rfl) (λhc=>a0n (gh hc rfl))<|zg (Gd.t1 rfl rfl rfl) (λhc=>a0b a3l.h (gh hc rfl))<|zg (Gd.t1 rfl rfl rfl) (λhc=>a0e rfl)<|zgv (Gd.t1 rfl rfl rfl) (λhc=>(a2d (gh hc rfl) (gh hc rfl))) (λhc=>(λw hw=>zq55 c0x ((M.cutS wd ([61]:List UInt8)).1) ⟨_,_,[.int .i64 c0x.pits,.int .i64 c0x.seeds,.bool c0x.stores,.bool c0x.skip,.bool c0x.relay,.bool c0x.feed,.bool c0x.again,.int .i64 c0x.capture,.int .i64 c0x.slam],rfl,⟨rfl,rfl,rfl,rfl,rfl,rfl,rfl,rfl,rfl,trivial⟩,Mem.boxR (i:=0) rfl 0 9 _ hw⟩ (r0:=h3))) ?_
  refine zg (Gd.t1 rfl rfl rfl) (λhc=>b7i @Tryz.underlying164 (gh hc rfl) rfl)<|Qq (a0d rfl rfl rfl)<|Qa rfl<|JL.nil ?_
  refine zi (λh19 h19'=>?_) λh19 h19'=>?_
  ·have hE:=M.rdW_1 (x:=(M.Rdr.mk c0x c0y c0z)) (a:=at1) (w:=wd) (.inr ⟨by simpa using h19,h3⟩)
   refine Js.region<|Qa rfl<|JL.nil<|Js.blockEnd<|zS<|Qm rfl<|Qd rfl rfl<|JL.nil ?_
   refine Js.condT rfl (by decide) ?_
   refine Js.region<|Qm rfl<|Qm rfl<|Qc rfl<|Qf fh rfl<|Q0 0 rfl rfl rfl<|Qm rfl<|Qm rfl<|Qm rfl<|Qb ?_
   refine zbs λb20=>?_
   refine JL.e (a0g (i:=2) (n':=(c0y++[(M.Prb.mk 1 at1 wd)]).length) (vs':=fltV vcProblem (c0y++[(M.Prb.mk 1 at1 wd)])) a2z rfl rfl rfl rfl (a0k (i:=0) a2b rfl rfl) (by omega) (by omega) ln2_ (by first|rfl|exact a1l _ _ _|exact a1d _ _ _|(simp[fltV];done))) ?_
   rintro v22 _ _ ⟨⟨g23,rfl⟩,rfl⟩ _
   refine JL.fact (row_form' (i:=2) rfl) (λhf24=>?_)
   obtain⟨A24,c24,rfl,bl24,bh24⟩:=hf24
   refine znl ?_
   refine Qc rfl<|Qf fh rfl<|zw 1 rfl rfl rfl ?_
   refine JL.nil ?_
   refine zrbE [1,1,1] hb (Up.refl _ _) ?_
   have hE100:(M.rdW (M.Rdr.mk c0x c0y c0z) at1 wd).rules=c0x:=by first|rfl|(rw[hE];done)|(rw[hE];rfl)
   have hN1:((M.rdW (M.Rdr.mk c0x c0y c0z) at1 wd).problems).length=(c0y++[(M.Prb.mk 1 at1 wd)]).length:=by first|rfl|(rw[hE];done)|(rw[hE];rfl)
   have hE1:(M.rdW (M.Rdr.mk c0x c0y c0z) at1 wd).problems=(c0y++[(M.Prb.mk 1 at1 wd)]):=by first|rfl|(rw[hE];done)|(rw[hE];rfl)
   have hE2:(M.rdW (M.Rdr.mk c0x c0y c0z) at1 wd).given=c0z:=by first|rfl|(rw[hE];done)|(rw[hE];rfl)
   refine⟨A24,c24,g23,rfl, ?_, ?_, ?_⟩
   · first|rfl|(dsimp only;rw[hE100,hN1,hE1,hE2];done)|(dsimp only;rw[hE100,hN1,hE1,hE2];rfl)|(dsimp only;simp only[hE100,hN1,hE1,hE2])|(rw[hE100,hN1,hE1,hE2];done)|(rw[hE100,hN1,hE1,hE2];rfl)
   all_goals (try dsimp only)
   all_goals (first|omega|(simp only[hE100,hN1,hE1,hE2];omega)|(simp[hE100,hN1,hE1,hE2];done))
  have q2:¬ ((M.cutS wd [61]).2.2=false/\M.isFlg (M.cutS wd [61]).1=false):=by have h9:=h19;rintro⟨a,b⟩;first|(rw[h3] at b;exact absurd b (by decide))|(rw[a] at h9;exact absurd h9 (by decide))
  refine zS<|Qm rfl<|Qa rfl<|JL.nil ?_
  refine zi (λh25 h25'=>?_) λh25 h25'=>?_
  ·have hE:=M.rdW_2 (x:=(M.Rdr.mk c0x c0y c0z)) (a:=at1) q1 q2 (by simpa using h25)
   refine Js.region<|Qa rfl<|JL.nil<|Js.blockEnd<|zS<|Qm rfl<|Qd rfl rfl<|JL.nil ?_
   refine Js.condT rfl (by decide) ?_
   refine Js.region<|Qm rfl<|Qm rfl<|Qc rfl<|Qf fh rfl<|Q0 0 rfl rfl rfl<|Qm rfl<|Qm rfl<|Qm rfl<|Qb ?_
   refine zbs λb26=>?_
   refine JL.e (a0g (i:=2) (n':=(c0y++[(M.Prb.mk 2 at1 wd)]).length) (vs':=fltV vcProblem (c0y++[(M.Prb.mk 2 at1 wd)])) a2z rfl rfl rfl rfl (a0k (i:=0) a2b rfl rfl) (by omega) (by omega) ln2_ (by first|rfl|exact a1l _ _ _|exact a1d _ _ _|(simp[fltV];done))) ?_
   rintro v28 _ _ ⟨⟨g29,rfl⟩,rfl⟩ _
   refine JL.fact (row_form' (i:=2) rfl) (λhf30=>?_)
   obtain⟨A30,c30,rfl,bl30,bh30⟩:=hf30
   refine znl ?_
   refine Qc rfl<|Qf fh rfl<|zw 1 rfl rfl rfl ?_
   refine JL.nil ?_
   refine zrbE [1,1,1] hb (Up.refl _ _) ?_
   have hE100:(M.rdW (M.Rdr.mk c0x c0y c0z) at1 wd).rules=c0x:=by first|rfl|(rw[hE];done)|(rw[hE];rfl)
   have hN1:((M.rdW (M.Rdr.mk c0x c0y c0z) at1 wd).problems).length=(c0y++[(M.Prb.mk 2 at1 wd)]).length:=by first|rfl|(rw[hE];done)|(rw[hE];rfl)
   have hE1:(M.rdW (M.Rdr.mk c0x c0y c0z) at1 wd).problems=(c0y++[(M.Prb.mk 2 at1 wd)]):=by first|rfl|(rw[hE];done)|(rw[hE];rfl)
   have hE2:(M.rdW (M.Rdr.mk c0x c0y c0z) at1 wd).given=c0z:=by first|rfl|(rw[hE];done)|(rw[hE];rfl)
   refine⟨A30,c30,g29,rfl, ?_, ?_, ?_⟩
   · first|rfl|(dsimp only;rw[hE100,hN1,hE1,hE2];done)|(dsimp only;rw[hE100,hN1,hE1,hE2];rfl)|(dsimp only;simp only[hE100,hN1,hE1,hE2])|(rw[hE100,hN1,hE1,hE2];done)|(rw[hE100,hN1,hE1,hE2];rfl)
   all_goals (try dsimp only)
   all_goals (first|omega|(simp only[hE100,hN1,hE1,hE2];omega)|(simp[hE100,hN1,hE1,hE2];done))
  have hm:M.mhas c0z (M.cutS wd [61]).1=false:=by simpa using h25
  refine zS<|Qm rfl<|Qa rfl<|JL.nil ?_
  refine zi (λh31 h31'=>?_) λh31 h31'=>?_
  ·have he:(M.cutS wd [61]).2.2=true:=by simpa using h31
   have hn:M.isNum (M.cutS wd [61]).1=true:=by cases h9:M.isNum (M.cutS wd [61]).1;exact absurd ⟨he,h9⟩ q1;rfl
   refine zS<|Qm rfl<|Qc rfl<|Qf fh rfl<|Q0 0 rfl rfl rfl<|Qm rfl<|Qm rfl ?_
   refine JL.s (a7b (i:=2) (g:=c0z) (k:=((M.cutS wd ([61]:List UInt8)).1)) (v:=at1) a5k rfl rfl rfl rfl (hm)) ?_
   rintro _ _ _ ⟨rfl,rfl⟩ _
   refine znl ?_
   refine zG<|Qm rfl<|Qm rfl<|Qm rfl<|zBB 3 sp_ rfl (λw hb _ hw=>zq58 c0x c0y (M.mput c0z ((M.cutS wd ([61]:List UInt8)).1) at1) ((M.cutS wd ([61]:List UInt8)).1) ((M.cutS wd ([61]:List UInt8)).2.1) hb (ok_ hw) (r0:=hn)) ?_
   rintro _ _ G32 ⟨A32x_9,c32x_9,g32x_9,rfl,rfl,bl32_0,bl32_1⟩
   refine znl ?_
   refine Qa rfl<|JL.nil<|Js.blockEnd<|zS<|Qm rfl<|Qd rfl rfl<|JL.nil ?_
   refine zi (λh33 h33'=>?_) λh33 h33'=>?_
   ·have hE:=M.rdW_n (x:=(M.Rdr.mk c0x c0y c0z)) (a:=at1) he hn hm rfl (by simpa using h33)
    refine Js.region<|Qm rfl<|Qm rfl<|Qc rfl<|Qf fh rfl<|Q0 0 rfl rfl rfl<|Qm rfl<|Qm rfl<|Qm rfl<|Qb ?_
    refine zbs λb34=>?_
    refine JL.e (a0g (i:=2) (n':=(c0y++([(M.Prb.mk ((M.valP ((M.cutS wd ([61]:List UInt8)).1) ((M.cutS wd ([61]:List UInt8)).2.1)).2) at1 wd)])).length) (vs':=fltV vcProblem (c0y++([(M.Prb.mk ((M.valP ((M.cutS wd ([61]:List UInt8)).1) ((M.cutS wd ([61]:List UInt8)).2.1)).2) at1 wd)]))) a2z rfl rfl rfl rfl (a0k (i:=0) a2b rfl rfl) (by omega) (by omega) ln2_ (by first|rfl|exact a1l _ _ _|exact a1d _ _ _|(simp[fltV];done))) ?_
    rintro v36 _ _ ⟨⟨g37,rfl⟩,rfl⟩ _
    refine JL.fact (row_form' (i:=2) rfl) (λhf38=>?_)
    obtain⟨A38,c38,rfl,bl38,bh38⟩:=hf38
    refine znl ?_
    refine Qc rfl<|Qf fh rfl<|zw 1 rfl rfl rfl ?_
    refine JL.nil ?_
    refine zrbE [1,1,1] hb (Up.refl _ _) ?_
    have hE100:(M.rdW (M.Rdr.mk c0x c0y c0z) at1 wd).rules=(M.valR c0x ((M.cutS wd ([61]:List UInt8)).1) ((M.cutS wd ([61]:List UInt8)).2.1)):=by first|rfl|(rw[hE];done)|(rw[hE];rfl)
    have hN1:((M.rdW (M.Rdr.mk c0x c0y c0z) at1 wd).problems).length=(c0y++([(M.Prb.mk ((M.valP ((M.cutS wd ([61]:List UInt8)).1) ((M.cutS wd ([61]:List UInt8)).2.1)).2) at1 wd)])).length:=by first|rfl|(rw[hE];done)|(rw[hE];rfl)
    have hE1:(M.rdW (M.Rdr.mk c0x c0y c0z) at1 wd).problems=(c0y++([(M.Prb.mk ((M.valP ((M.cutS wd ([61]:List UInt8)).1) ((M.cutS wd ([61]:List UInt8)).2.1)).2) at1 wd)])):=by first|rfl|(rw[hE];done)|(rw[hE];rfl)
    have hE2:(M.rdW (M.Rdr.mk c0x c0y c0z) at1 wd).given=(M.mput c0z ((M.cutS wd ([61]:List UInt8)).1) at1):=by first|rfl|(rw[hE];done)|(rw[hE];rfl)
    refine⟨A38,c38,g37,rfl, ?_, ?_, ?_⟩
    · first|rfl|(dsimp only;rw[hE100,hN1,hE1,hE2];done)|(dsimp only;rw[hE100,hN1,hE1,hE2];rfl)|(dsimp only;simp only[hE100,hN1,hE1,hE2])|(rw[hE100,hN1,hE1,hE2];done)|(rw[hE100,hN1,hE1,hE2];rfl)
    all_goals (try dsimp only)
    all_goals (first|omega|(simp only[hE100,hN1,hE1,hE2];omega)|(simp[hE100,hN1,hE1,hE2];done))
   have hE:=M.rdW_z (x:=(M.Rdr.mk c0x c0y c0z)) (a:=at1) he hn hm (by simpa using h33)
   refine Js.skip ?_
   refine zrbE [0,0,0] hb (Up.refl _ _) ?_
   have hE100:(M.rdW (M.Rdr.mk c0x c0y c0z) at1 wd).rules=(M.valR c0x ((M.cutS wd ([61]:List UInt8)).1) ((M.cutS wd ([61]:List UInt8)).2.1)):=by first|rfl|(rw[hE];done)|(rw[hE];rfl)
   have hN1:((M.rdW (M.Rdr.mk c0x c0y c0z) at1 wd).problems).length=c0y.length:=by first|rfl|(rw[hE];done)|(rw[hE];rfl)
   have hE1:(M.rdW (M.Rdr.mk c0x c0y c0z) at1 wd).problems=c0y:=by first|rfl|(rw[hE];done)|(rw[hE];rfl)
   have hE2:(M.rdW (M.Rdr.mk c0x c0y c0z) at1 wd).given=(M.mput c0z ((M.cutS wd ([61]:List UInt8)).1) at1):=by first|rfl|(rw[hE];done)|(rw[hE];rfl)
   refine⟨A32x_9,c32x_9,g32x_9,rfl, ?_, ?_, ?_⟩
   · first|rfl|(dsimp only;rw[hE100,hN1,hE1,hE2];done)|(dsimp only;rw[hE100,hN1,hE1,hE2];rfl)|(dsimp only;simp only[hE100,hN1,hE1,hE2])|(rw[hE100,hN1,hE1,hE2];done)|(rw[hE100,hN1,hE1,hE2];rfl)
   all_goals (try dsimp only)
   all_goals (first|omega|(simp only[hE100,hN1,hE1,hE2];omega)|(simp[hE100,hN1,hE1,hE2];done))
  exact absurd ⟨by simpa using h31,h3⟩ q2
 refine Js.region<|Qm rfl<|Qm rfl<|zg (Gd.t1 rfl rfl rfl) (λhc=>a0e rfl)<|zg (Gd.t1 rfl rfl rfl) (λhc=>a0n (gh hc rfl))<|zg (Gd.t1 rfl rfl rfl) (λhc=>a0b a3l.h (gh hc rfl))<|zg (Gd.t1 rfl rfl rfl) (λhc=>a0e rfl)<|zgv (Gd.t1 rfl rfl rfl) (λhc=>(a2d (gh hc rfl) (gh hc rfl))) (λhc=>(λw hw=>zq103 c0x ((M.cutS wd ([61]:List UInt8)).1) ⟨_,_,[.int .i64 c0x.pits,.int .i64 c0x.seeds,.bool c0x.stores,.bool c0x.skip,.bool c0x.relay,.bool c0x.feed,.bool c0x.again,.int .i64 c0x.capture,.int .i64 c0x.slam],rfl,⟨rfl,rfl,rfl,rfl,rfl,rfl,rfl,rfl,rfl,trivial⟩,Mem.boxR (i:=0) rfl 0 9 _ hw⟩ (r0:=h1))) ?_
 refine zg (Gd.t1 rfl rfl rfl) (λhc=>b7i @Tryz.underlying250 (gh hc rfl) rfl)<|Qq (a0d rfl rfl rfl)<|Qa rfl<|JL.nil ?_
 refine zi (λh39 h39'=>?_) λh39 h39'=>?_
 ·have hE:=M.rdW_1 (x:=(M.Rdr.mk c0x c0y c0z)) (a:=at1) (w:=wd) (.inl ⟨by simpa using h39,h1⟩)
  refine Js.skip ?_
  refine Js.condT rfl h39 ?_
  refine Js.region<|Qa rfl<|JL.nil<|Js.blockEnd<|zS<|Qm rfl<|Qd rfl rfl<|JL.nil ?_
  refine Js.condT rfl (by decide) ?_
  refine Js.region<|Qm rfl<|Qm rfl<|Qc rfl<|Qf fh rfl<|Q0 0 rfl rfl rfl<|Qm rfl<|Qm rfl<|Qm rfl<|Qb ?_
  refine zbs λb40=>?_
  refine JL.e (a0g (i:=2) (n':=(c0y++[(M.Prb.mk 1 at1 wd)]).length) (vs':=fltV vcProblem (c0y++[(M.Prb.mk 1 at1 wd)])) a2z rfl rfl rfl rfl (a0k (i:=0) a2b rfl rfl) (by omega) (by omega) ln2_ (by first|rfl|exact a1l _ _ _|exact a1d _ _ _|(simp[fltV];done))) ?_
  rintro v42 _ _ ⟨⟨g43,rfl⟩,rfl⟩ _
  refine JL.fact (row_form' (i:=2) rfl) (λhf44=>?_)
  obtain⟨A44,c44,rfl,bl44,bh44⟩:=hf44
  refine znl ?_
  refine Qc rfl<|Qf fh rfl<|zw 1 rfl rfl rfl ?_
  refine JL.nil ?_
  refine zrbE [1,1,1] hb (Up.refl _ _) ?_
  have hE100:(M.rdW (M.Rdr.mk c0x c0y c0z) at1 wd).rules=c0x:=by first|rfl|(rw[hE];done)|(rw[hE];rfl)
  have hN1:((M.rdW (M.Rdr.mk c0x c0y c0z) at1 wd).problems).length=(c0y++[(M.Prb.mk 1 at1 wd)]).length:=by first|rfl|(rw[hE];done)|(rw[hE];rfl)
  have hE1:(M.rdW (M.Rdr.mk c0x c0y c0z) at1 wd).problems=(c0y++[(M.Prb.mk 1 at1 wd)]):=by first|rfl|(rw[hE];done)|(rw[hE];rfl)
  have hE2:(M.rdW (M.Rdr.mk c0x c0y c0z) at1 wd).given=c0z:=by first|rfl|(rw[hE];done)|(rw[hE];rfl)
  refine⟨A44,c44,g43,rfl, ?_, ?_, ?_⟩
  · first|rfl|(dsimp only;rw[hE100,hN1,hE1,hE2];done)|(dsimp only;rw[hE100,hN1,hE1,hE2];rfl)|(dsimp only;simp only[hE100,hN1,hE1,hE2])|(rw[hE100,hN1,hE1,hE2];done)|(rw[hE100,hN1,hE1,hE2];rfl)
  all_goals (try dsimp only)
  all_goals (first|omega|(simp only[hE100,hN1,hE1,hE2];omega)|(simp[hE100,hN1,hE1,hE2];done))
 have q1:¬ ((M.cutS wd [61]).2.2=true/\M.isNum (M.cutS wd [61]).1=false):=by have h9:=h39;rintro⟨a,b⟩;first|(rw[h1] at b;exact absurd b (by decide))|(rw[a] at h9;exact absurd h9 (by decide))
 rcases Bool.eq_false_or_eq_true (M.isFlg (M.cutS wd [61]).1) with h45|h45
 ·refine Js.region<|Qm rfl<|Qt rfl<|Qm rfl<|zg (Gd.t1 rfl rfl rfl) (λhc=>a0e rfl)<|zg (Gd.t1 rfl rfl rfl) (λhc=>a0n (gh hc rfl))<|zg (Gd.t1 rfl rfl rfl) (λhc=>a0b a3l.h (gh hc rfl))<|zg (Gd.t1 rfl rfl rfl) (λhc=>a0e rfl)<|zgv (Gd.t1 rfl rfl rfl) (λhc=>(a2d (gh hc rfl) (gh hc rfl))) (λhc=>(λw hw=>zq15 c0x ((M.cutS wd ([61]:List UInt8)).1) ⟨_,_,[.int .i64 c0x.pits,.int .i64 c0x.seeds,.bool c0x.stores,.bool c0x.skip,.bool c0x.relay,.bool c0x.feed,.bool c0x.again,.int .i64 c0x.capture,.int .i64 c0x.slam],rfl,⟨rfl,rfl,rfl,rfl,rfl,rfl,rfl,rfl,rfl,trivial⟩,Mem.boxR (i:=0) rfl 0 9 _ hw⟩ (r0:=(M.a5b h45)))) ?_
  refine zg (Gd.t1 rfl rfl rfl) (λhc=>b6f @Tryz.underlying164 (gh hc rfl) rfl)<|Qq (a0d rfl rfl rfl)<|Qa rfl<|JL.nil ?_
  refine zi (λh46 h46'=>?_) λh46 h46'=>?_
  · exact absurd h46 (by simp)
  have q2:¬ ((M.cutS wd [61]).2.2=false/\M.isFlg (M.cutS wd [61]).1=false):=by have h9:=h46;rintro⟨a,b⟩;first|(rw[h45] at b;exact absurd b (by decide))|(rw[a] at h9;exact absurd h9 (by decide))
  refine zS<|Qm rfl<|Qa rfl<|JL.nil ?_
  refine zi (λh47 h47'=>?_) λh47 h47'=>?_
  ·have hE:=M.rdW_2 (x:=(M.Rdr.mk c0x c0y c0z)) (a:=at1) q1 q2 (by simpa using h47)
   refine Js.region<|Qa rfl<|JL.nil<|Js.blockEnd<|zS<|Qm rfl<|Qd rfl rfl<|JL.nil ?_
   refine Js.condT rfl (by decide) ?_
   refine Js.region<|Qm rfl<|Qm rfl<|Qc rfl<|Qf fh rfl<|Q0 0 rfl rfl rfl<|Qm rfl<|Qm rfl<|Qm rfl<|Qb ?_
   refine zbs λb48=>?_
   refine JL.e (a0g (i:=2) (n':=(c0y++[(M.Prb.mk 2 at1 wd)]).length) (vs':=fltV vcProblem (c0y++[(M.Prb.mk 2 at1 wd)])) a2z rfl rfl rfl rfl (a0k (i:=0) a2b rfl rfl) (by omega) (by omega) ln2_ (by first|rfl|exact a1l _ _ _|exact a1d _ _ _|(simp[fltV];done))) ?_
   rintro v50 _ _ ⟨⟨g51,rfl⟩,rfl⟩ _
   refine JL.fact (row_form' (i:=2) rfl) (λhf52=>?_)
   obtain⟨A52,c52,rfl,bl52,bh52⟩:=hf52
   refine znl ?_
   refine Qc rfl<|Qf fh rfl<|zw 1 rfl rfl rfl ?_
   refine JL.nil ?_
   refine zrbE [1,1,1] hb (Up.refl _ _) ?_
   have hE100:(M.rdW (M.Rdr.mk c0x c0y c0z) at1 wd).rules=c0x:=by first|rfl|(rw[hE];done)|(rw[hE];rfl)
   have hN1:((M.rdW (M.Rdr.mk c0x c0y c0z) at1 wd).problems).length=(c0y++[(M.Prb.mk 2 at1 wd)]).length:=by first|rfl|(rw[hE];done)|(rw[hE];rfl)
   have hE1:(M.rdW (M.Rdr.mk c0x c0y c0z) at1 wd).problems=(c0y++[(M.Prb.mk 2 at1 wd)]):=by first|rfl|(rw[hE];done)|(rw[hE];rfl)
   have hE2:(M.rdW (M.Rdr.mk c0x c0y c0z) at1 wd).given=c0z:=by first|rfl|(rw[hE];done)|(rw[hE];rfl)
   refine⟨A52,c52,g51,rfl, ?_, ?_, ?_⟩
   · first|rfl|(dsimp only;rw[hE100,hN1,hE1,hE2];done)|(dsimp only;rw[hE100,hN1,hE1,hE2];rfl)|(dsimp only;simp only[hE100,hN1,hE1,hE2])|(rw[hE100,hN1,hE1,hE2];done)|(rw[hE100,hN1,hE1,hE2];rfl)
   all_goals (try dsimp only)
   all_goals (first|omega|(simp only[hE100,hN1,hE1,hE2];omega)|(simp[hE100,hN1,hE1,hE2];done))
  have hm:M.mhas c0z (M.cutS wd [61]).1=false:=by simpa using h47
  refine zS<|Qm rfl<|Qa rfl<|JL.nil ?_
  refine zi (λh53 h53'=>?_) λh53 h53'=>?_
  · exact absurd ⟨by simpa using h53,h1⟩ q1
  have he:(M.cutS wd [61]).2.2=false:=by simpa using h53
  have hf:M.isFlg (M.cutS wd [61]).1=true:=by cases h9:M.isFlg (M.cutS wd [61]).1;exact absurd ⟨he,h9⟩ q2;rfl
  have hE:=M.rdW_f (x:=(M.Rdr.mk c0x c0y c0z)) (a:=at1) he hf hm
  refine zS<|Qm rfl<|Qc rfl<|Qf fh rfl<|Q0 0 rfl rfl rfl<|Qm rfl<|Qm rfl ?_
  refine JL.s (a7b (i:=2) (g:=c0z) (k:=((M.cutS wd ([61]:List UInt8)).1)) (v:=at1) a5k rfl rfl rfl rfl (hm)) ?_
  rintro _ _ _ ⟨rfl,rfl⟩ _
  refine znl ?_
  refine zG<|Qm rfl<|Qc rfl<|Qf fh rfl<|Qm rfl<|zv rfl (λw hw=>zq15 c0x ((M.cutS wd ([61]:List UInt8)).1) ⟨_,_,[.int .i64 c0x.pits,.int .i64 c0x.seeds,.bool c0x.stores,.bool c0x.skip,.bool c0x.relay,.bool c0x.feed,.bool c0x.again,.int .i64 c0x.capture,.int .i64 c0x.slam],rfl,⟨rfl,rfl,rfl,rfl,rfl,rfl,rfl,rfl,rfl,trivial⟩,Mem.boxR (i:=0) rfl 0 9 _ hw⟩ (r0:=(M.a5b hf)))<|Qc rfl ?_
  refine JL.s (a7j (i:=0) (c':=[.int .i64 ((M.setFlg c0x (M.cutS wd [61]).1).pits),.int .i64 ((M.setFlg c0x (M.cutS wd [61]).1).seeds),.bool ((M.setFlg c0x (M.cutS wd [61]).1).stores),.bool ((M.setFlg c0x (M.cutS wd [61]).1).skip),.bool ((M.setFlg c0x (M.cutS wd [61]).1).relay),.bool ((M.setFlg c0x (M.cutS wd [61]).1).feed),.bool ((M.setFlg c0x (M.cutS wd [61]).1).again),.int .i64 ((M.setFlg c0x (M.cutS wd [61]).1).capture),.int .i64 ((M.setFlg c0x (M.cutS wd [61]).1).slam),.slice Ax_9 c0y.length cx_9,.map (some bx_10)]) ty_4.h rfl rfl rfl rfl rfl (by have:=b5m hf;simp only[List.length_cons,List.length_nil];omega) (flg_set hf)) ?_
  rintro _ _ _ ⟨rfl,rfl⟩ _
  refine znl ?_
  refine JL.nil<|Js.blockEnd<|zS<|Qm rfl<|Qd rfl rfl<|JL.nil ?_
  refine Js.condF rfl (by decide) ?_
  refine Js.skip ?_
  refine zrbE [0,0,0] hb (Up.refl _ _) ?_
  have hE100:(M.rdW (M.Rdr.mk c0x c0y c0z) at1 wd).rules=(M.setFlg c0x (M.cutS wd [61]).1):=by first|rfl|(rw[hE];done)|(rw[hE];rfl)
  have hN1:((M.rdW (M.Rdr.mk c0x c0y c0z) at1 wd).problems).length=c0y.length:=by first|rfl|(rw[hE];done)|(rw[hE];rfl)
  have hE1:(M.rdW (M.Rdr.mk c0x c0y c0z) at1 wd).problems=c0y:=by first|rfl|(rw[hE];done)|(rw[hE];rfl)
  have hE2:(M.rdW (M.Rdr.mk c0x c0y c0z) at1 wd).given=(M.mput c0z ((M.cutS wd ([61]:List UInt8)).1) at1):=by first|rfl|(rw[hE];done)|(rw[hE];rfl)
  refine⟨Ax_9,cx_9,gx_9,rfl, ?_, ?_, ?_⟩
  · first|rfl|(dsimp only;rw[hE100,hN1,hE1,hE2];done)|(dsimp only;rw[hE100,hN1,hE1,hE2];rfl)|(dsimp only;simp only[hE100,hN1,hE1,hE2])|(rw[hE100,hN1,hE1,hE2];done)|(rw[hE100,hN1,hE1,hE2];rfl)
  all_goals (try dsimp only)
  all_goals (first|omega|(simp only[hE100,hN1,hE1,hE2];omega)|(simp[hE100,hN1,hE1,hE2];done))
 refine Js.region<|Qm rfl<|Qt rfl<|Qm rfl<|zg (Gd.t1 rfl rfl rfl) (λhc=>a0e rfl)<|zg (Gd.t1 rfl rfl rfl) (λhc=>a0n (gh hc rfl))<|zg (Gd.t1 rfl rfl rfl) (λhc=>a0b a3l.h (gh hc rfl))<|zg (Gd.t1 rfl rfl rfl) (λhc=>a0e rfl)<|zgv (Gd.t1 rfl rfl rfl) (λhc=>(a2d (gh hc rfl) (gh hc rfl))) (λhc=>(λw hw=>zq55 c0x ((M.cutS wd ([61]:List UInt8)).1) ⟨_,_,[.int .i64 c0x.pits,.int .i64 c0x.seeds,.bool c0x.stores,.bool c0x.skip,.bool c0x.relay,.bool c0x.feed,.bool c0x.again,.int .i64 c0x.capture,.int .i64 c0x.slam],rfl,⟨rfl,rfl,rfl,rfl,rfl,rfl,rfl,rfl,rfl,trivial⟩,Mem.boxR (i:=0) rfl 0 9 _ hw⟩ (r0:=h45))) ?_
 refine zg (Gd.t1 rfl rfl rfl) (λhc=>b7i @Tryz.underlying164 (gh hc rfl) rfl)<|Qq (a0d rfl rfl rfl)<|Qa rfl<|JL.nil ?_
 refine zi (λh54 h54'=>?_) λh54 h54'=>?_
 ·have hE:=M.rdW_1 (x:=(M.Rdr.mk c0x c0y c0z)) (a:=at1) (w:=wd) (.inr ⟨by simpa using h54,h45⟩)
  refine Js.region<|Qa rfl<|JL.nil<|Js.blockEnd<|zS<|Qm rfl<|Qd rfl rfl<|JL.nil ?_
  refine Js.condT rfl (by decide) ?_
  refine Js.region<|Qm rfl<|Qm rfl<|Qc rfl<|Qf fh rfl<|Q0 0 rfl rfl rfl<|Qm rfl<|Qm rfl<|Qm rfl<|Qb ?_
  refine zbs λb55=>?_
  refine JL.e (a0g (i:=2) (n':=(c0y++[(M.Prb.mk 1 at1 wd)]).length) (vs':=fltV vcProblem (c0y++[(M.Prb.mk 1 at1 wd)])) a2z rfl rfl rfl rfl (a0k (i:=0) a2b rfl rfl) (by omega) (by omega) ln2_ (by first|rfl|exact a1l _ _ _|exact a1d _ _ _|(simp[fltV];done))) ?_
  rintro v57 _ _ ⟨⟨g58,rfl⟩,rfl⟩ _
  refine JL.fact (row_form' (i:=2) rfl) (λhf59=>?_)
  obtain⟨A59,c59,rfl,bl59,bh59⟩:=hf59
  refine znl ?_
  refine Qc rfl<|Qf fh rfl<|zw 1 rfl rfl rfl ?_
  refine JL.nil ?_
  refine zrbE [1,1,1] hb (Up.refl _ _) ?_
  have hE100:(M.rdW (M.Rdr.mk c0x c0y c0z) at1 wd).rules=c0x:=by first|rfl|(rw[hE];done)|(rw[hE];rfl)
  have hN1:((M.rdW (M.Rdr.mk c0x c0y c0z) at1 wd).problems).length=(c0y++[(M.Prb.mk 1 at1 wd)]).length:=by first|rfl|(rw[hE];done)|(rw[hE];rfl)
  have hE1:(M.rdW (M.Rdr.mk c0x c0y c0z) at1 wd).problems=(c0y++[(M.Prb.mk 1 at1 wd)]):=by first|rfl|(rw[hE];done)|(rw[hE];rfl)
  have hE2:(M.rdW (M.Rdr.mk c0x c0y c0z) at1 wd).given=c0z:=by first|rfl|(rw[hE];done)|(rw[hE];rfl)
  refine⟨A59,c59,g58,rfl, ?_, ?_, ?_⟩
  · first|rfl|(dsimp only;rw[hE100,hN1,hE1,hE2];done)|(dsimp only;rw[hE100,hN1,hE1,hE2];rfl)|(dsimp only;simp only[hE100,hN1,hE1,hE2])|(rw[hE100,hN1,hE1,hE2];done)|(rw[hE100,hN1,hE1,hE2];rfl)
  all_goals (try dsimp only)
  all_goals (first|omega|(simp only[hE100,hN1,hE1,hE2];omega)|(simp[hE100,hN1,hE1,hE2];done))
 have q2:¬ ((M.cutS wd [61]).2.2=false/\M.isFlg (M.cutS wd [61]).1=false):=by have h9:=h54;rintro⟨a,b⟩;first|(rw[h45] at b;exact absurd b (by decide))|(rw[a] at h9;exact absurd h9 (by decide))
 refine zS<|Qm rfl<|Qa rfl<|JL.nil ?_
 refine zi (λh60 h60'=>?_) λh60 h60'=>?_
 ·have hE:=M.rdW_2 (x:=(M.Rdr.mk c0x c0y c0z)) (a:=at1) q1 q2 (by simpa using h60)
  refine Js.region<|Qa rfl<|JL.nil<|Js.blockEnd<|zS<|Qm rfl<|Qd rfl rfl<|JL.nil ?_
  refine Js.condT rfl (by decide) ?_
  refine Js.region<|Qm rfl<|Qm rfl<|Qc rfl<|Qf fh rfl<|Q0 0 rfl rfl rfl<|Qm rfl<|Qm rfl<|Qm rfl<|Qb ?_
  refine zbs λb61=>?_
  refine JL.e (a0g (i:=2) (n':=(c0y++[(M.Prb.mk 2 at1 wd)]).length) (vs':=fltV vcProblem (c0y++[(M.Prb.mk 2 at1 wd)])) a2z rfl rfl rfl rfl (a0k (i:=0) a2b rfl rfl) (by omega) (by omega) ln2_ (by first|rfl|exact a1l _ _ _|exact a1d _ _ _|(simp[fltV];done))) ?_
  rintro v63 _ _ ⟨⟨g64,rfl⟩,rfl⟩ _
  refine JL.fact (row_form' (i:=2) rfl) (λhf65=>?_)
  obtain⟨A65,c65,rfl,bl65,bh65⟩:=hf65
  refine znl ?_
  refine Qc rfl<|Qf fh rfl<|zw 1 rfl rfl rfl ?_
  refine JL.nil ?_
  refine zrbE [1,1,1] hb (Up.refl _ _) ?_
  have hE100:(M.rdW (M.Rdr.mk c0x c0y c0z) at1 wd).rules=c0x:=by first|rfl|(rw[hE];done)|(rw[hE];rfl)
  have hN1:((M.rdW (M.Rdr.mk c0x c0y c0z) at1 wd).problems).length=(c0y++[(M.Prb.mk 2 at1 wd)]).length:=by first|rfl|(rw[hE];done)|(rw[hE];rfl)
  have hE1:(M.rdW (M.Rdr.mk c0x c0y c0z) at1 wd).problems=(c0y++[(M.Prb.mk 2 at1 wd)]):=by first|rfl|(rw[hE];done)|(rw[hE];rfl)
  have hE2:(M.rdW (M.Rdr.mk c0x c0y c0z) at1 wd).given=c0z:=by first|rfl|(rw[hE];done)|(rw[hE];rfl)
  refine⟨A65,c65,g64,rfl, ?_, ?_, ?_⟩
  · first|rfl|(dsimp only;rw[hE100,hN1,hE1,hE2];done)|(dsimp only;rw[hE100,hN1,hE1,hE2];rfl)|(dsimp only;simp only[hE100,hN1,hE1,hE2])|(rw[hE100,hN1,hE1,hE2];done)|(rw[hE100,hN1,hE1,hE2];rfl)
  all_goals (try dsimp only)
  all_goals (first|omega|(simp only[hE100,hN1,hE1,hE2];omega)|(simp[hE100,hN1,hE1,hE2];done))
 have hm:M.mhas c0z (M.cutS wd [61]).1=false:=by simpa using h60
 refine zS<|Qm rfl<|Qa rfl<|JL.nil ?_
 refine zi (λh66 h66'=>?_) λh66 h66'=>?_
 · exact absurd ⟨by simpa using h66,h1⟩ q1
 exact absurd ⟨by simpa using h66,h45⟩ q2
theorem zq106(c0x:M.Rul)(c0y:List M.Prb)(c0z:List (List UInt8×Int)){Ax_9:Option Addr}{cx_9:Nat}{gx_9:List Nat}{bx_10:Nat}(end1:Int){bx:Nat}{w:World}(hb:Bw w [boxO bx [.int .i64 c0x.pits,.int .i64 c0x.seeds,.bool c0x.stores,.bool c0x.skip,.bool c0x.relay,.bool c0x.feed,.bool c0x.again,.int .i64 c0x.capture,.int .i64 c0x.slam,.slice Ax_9 c0y.length cx_9,.map (some bx_10)] 244,rowO 239 3 (.slice Ax_9 c0y.length cx_9) c0y.length (fltV vcProblem c0y) gx_9,mapS bx_10 c0z])(bd0:c0y.length<=cx_9:=by exact om_)(bd1:cx_9<=9223372036854775807:=by exact om_)(r0:c0y.length<=1000000:=by exact om_):RetB Tryz.prog 205 [.pointer (some ⟨bx,0,none⟩),.int .i64 end1] w [boxO bx [.int .i64 c0x.pits,.int .i64 c0x.seeds,.bool c0x.stores,.bool c0x.skip,.bool c0x.relay,.bool c0x.feed,.bool c0x.again,.int .i64 c0x.capture,.int .i64 c0x.slam,.slice Ax_9 c0y.length cx_9,.map (some bx_10)] 244,rowO 239 3 (.slice Ax_9 c0y.length cx_9) c0y.length (fltV vcProblem c0y) gx_9,mapS bx_10 c0z] (λv bs'=>∃ (Axx_9:Option Addr) (cxx_9:Nat) (gxx_9:List Nat),v=.tuple #[]/\bs'=[boxO bx [.int .i64 c0x.pits,.int .i64 c0x.seeds,.bool c0x.stores,.bool c0x.skip,.bool c0x.relay,.bool c0x.feed,.bool c0x.again,.int .i64 c0x.capture,.int .i64 c0x.slam,.slice Axx_9 ((c0y++M.mis c0z end1).length) cxx_9,.map (some bx_10)] 244,rowO 239 3 (.slice Axx_9 ((c0y++M.mis c0z end1).length) cxx_9) ((c0y++M.mis c0z end1).length) (fltV vcProblem (c0y++M.mis c0z end1)) gxx_9,mapS bx_10 c0z]/\(c0y++M.mis c0z end1).length<=cxx_9/\cxx_9<=9223372036854775807):=by
 have hpl2:M.pNames.length=2:=rfl
 refine enterB hb @Tryz.func205 @Tryz.ntmps205 rfl rfl ?_
 refine zent ?_
 refine Js.trashE ?_
 refine zn ?_
 refine Js.seq<|zS<|zbs λb1=>?_
 refine Qz rfl<|Qm rfl<|JL.nil<|Js.block ?_
 refine zl [0,1,12,13] (λF U l os u m=>∃ (k:Nat) (qs:List M.Prb) (A3_0_9:Option Addr) (c3_0_9:Nat) (g3_0_9:List Nat) (G3_4:List Nat),l=F [(14,.int .i64 (k:Int))]/\os=U [nO,some (boxO bx [.int .i64 c0x.pits,.int .i64 c0x.seeds,.bool c0x.stores,.bool c0x.skip,.bool c0x.relay,.bool c0x.feed,.bool c0x.again,.int .i64 c0x.capture,.int .i64 c0x.slam,.slice A3_0_9 qs.length c3_0_9,.map (some bx_10)] 244),some (rowO 239 3 (.slice A3_0_9 qs.length c3_0_9) qs.length (fltV vcProblem qs) g3_0_9),nO,some (anyO G3_4)]/\(qs=c0y++M.misN c0z end1 k)/\(k<=2)/\(qs.length<=c3_0_9)/\(c3_0_9<=9223372036854775807)/\m=2 - k) ⟨0,c0y,_,_,_,_,rfl,rfl,by rw[M.misN,List.append_nil],zt,zu,zu,rfl⟩ ?_
 rintro _ _ u3 _ ⟨k,qs,A3_0_9,c3_0_9,g3_0_9,G3_4,rfl,rfl,hM,hk,f3_2,f3_3,rfl⟩ x3
 refine zn ?_
 have hql:qs.length<=1000000 + 2:=by rw[hM,List.length_append];have:=M.a9h c0z end1 k;omega
 refine zS<|Ql rfl rfl<|zJ ?_
 refine zi (λh4 h4'=>?_) λh4 h4'=>?_
 ·obtain⟨ye5,hye5⟩:∃ x,M.pNames[k]?=some x:=⟨_,List.getElem?_eq_getElem (by omega)⟩
  have hye5:([([112,105,116,115]:List UInt8),([115,101,101,100,115]:List UInt8)]:List (List UInt8))[k]?=some ye5:=hye5
  refine Js.skip<|Js.seq<|Js.block<|zS<|Qq (a0a el_31 rfl rfl (by omega) (by omega) rfl)<|Qw (a0c ty_9.h rfl (Mem.row (i:=0) rfl (txs_get' (xs:=([([112,105,116,115]:List UInt8),([115,101,101,100,115]:List UInt8)])) hye5)))<|Qa rfl<|zN<|Qm rfl<|Qc rfl<|Qf fh rfl<|Q0 1 rfl rfl rfl<|Qm rfl<|Qw (b3j (i:=3) (g:=c0z) (k:=ye5) a5k rfl rfl rfl) ?_
  refine Qm rfl<|Qx rfl rfl<|Qx rfl rfl<|Qa rfl<|Qa rfl<|zN<|Qm rfl<|Qt rfl<|JL.nil ?_
  refine zi (λh8 h8'=>?_) λh8 h8'=>?_
  ·have hM2:=M.misN_f hM (show M.pNames[k]?=some ye5 from hye5) (by simpa using h8)
   refine Js.region<|Qm rfl<|Qm rfl<|Qc rfl<|Qf fh rfl<|Q0 1 rfl rfl rfl<|Qm rfl<|Qm rfl<|Qb ?_
   refine zbs λb9=>?_
   refine JL.e (a0g (i:=3) (n':=(qs++[(M.Prb.mk 5 end1 ye5)]).length) (vs':=fltV vcProblem (qs++[(M.Prb.mk 5 end1 ye5)])) a2z rfl rfl rfl rfl (a0k (i:=0) a2b rfl rfl) (by omega) (by omega) ln2_ (by first|rfl|exact a1l _ _ _|exact a1d _ _ _|(simp[fltV];done))) ?_
   rintro v11 _ _ ⟨⟨g12,rfl⟩,rfl⟩ _
   refine JL.fact (row_form' (i:=3) rfl) (λhf13=>?_)
   obtain⟨A13,c13,rfl,bl13,bh13⟩:=hf13
   refine znl ?_
   refine Qc rfl<|Qf fh rfl<|zw 2 rfl rfl rfl ?_
   refine JL.nil<|Js.blockEnd<|Js.region<|Qp rfl rfl<|Qm rfl<|JL.nil ?_
   refine zf [1,1,1,1] λGG14=>?_
   refine zn ?_
   exact zag ⟨k + 1,qs++[(M.Prb.mk 5 end1 ye5)],_,_,_,_,rfl,rfl,by exact hM2,zt,zu,zu,rfl⟩ x3
  have hM2:=M.misN_t hM (show M.pNames[k]?=some ye5 from hye5) (by simpa using h8)
  refine Js.skip<|Js.blockEnd<|Js.region<|Qp rfl rfl<|Qm rfl<|JL.nil ?_
  exact zag ⟨k + 1,qs,_,_,_,_,rfl,rfl,by exact hM2,zt,zu,zu,rfl⟩ x3
 have hk2:k=2:=by have:=h4';omega
 have hql:qs.length<=1000000 + 2:=by rw[hM,List.length_append];have:=M.a9h c0z end1 k;omega
 refine zx ?_
 refine zS<|Qm rfl<|Qc rfl<|Qf fh rfl<|Q0 1 rfl rfl rfl<|Qw (b3j (i:=3) (g:=c0z) (k:=([97,103,97,105,110]:List UInt8)) a5k rfl rfl rfl)<|Qm rfl<|Qx rfl rfl<|Qx rfl rfl<|Qa rfl<|Qa rfl<|zN<|Qm rfl<|Qc rfl ?_
 refine Qf fh rfl<|Q0 1 rfl rfl rfl<|Qw (b3j (i:=3) (g:=c0z) (k:=([115,116,111,114,101,115]:List UInt8)) a5k rfl rfl rfl)<|Qm rfl<|Qx rfl rfl<|Qx rfl rfl<|Qa rfl<|Qa rfl<|zN<|Qm rfl<|Qm rfl<|zg (Gd.t1 rfl rfl rfl) (λhc=>a0e rfl)<|zg (Gd.t1 rfl rfl rfl) (λhc=>p_not (gh hc rfl))<|Qq (a0d rfl rfl rfl) ?_
 refine JL.nil ?_
 refine zi (λh15 h15'=>?_) λh15 h15'=>?_
 ·have h29:M.mhas c0z M.agaiT=true/\M.mhas c0z M.storT=false:=by have h9:=h15;simp only[Bool.and_eq_true,Bool.not_eq_true'] at h9;exact h9
  have hE:=M.mis_t hM hk2 h29.1 h29.2
  refine Js.region<|Qm rfl<|Qm rfl<|Qc rfl<|Qf fh rfl<|Q0 1 rfl rfl rfl<|Qm rfl<|Qb ?_
  refine zbs λb16=>?_
  refine JL.e (a0g (i:=3) (n':=(qs++([(M.Prb.mk 6 (M.mval c0z ([97,103,97,105,110]:List UInt8)) ([97,103,97,105,110]:List UInt8))])).length) (vs':=fltV vcProblem (qs++([(M.Prb.mk 6 (M.mval c0z ([97,103,97,105,110]:List UInt8)) ([97,103,97,105,110]:List UInt8))]))) a2z rfl rfl rfl rfl (a0k (i:=0) a2b rfl rfl) (by omega) (by omega) ln2_ (by first|rfl|exact a1l _ _ _|exact a1d _ _ _|(simp[fltV];done))) ?_
  rintro v18 _ _ ⟨⟨g19,rfl⟩,rfl⟩ _
  refine JL.fact (row_form' (i:=3) rfl) (λhf20=>?_)
  obtain⟨A20,c20,rfl,bl20,bh20⟩:=hf20
  refine znl ?_
  refine Qc rfl<|Qf fh rfl<|zw 2 rfl rfl rfl ?_
  refine JL.nil ?_
  refine zrbE [2,2,2] hb x3 ?_
  have hN10:(c0y++M.mis c0z end1).length=(qs++([(M.Prb.mk 6 (M.mval c0z ([97,103,97,105,110]:List UInt8)) ([97,103,97,105,110]:List UInt8))])).length:=by first|rfl|exact hE|(rw[hE];done)|(rw[hE];rfl)
  have hE10:(c0y++M.mis c0z end1)=(qs++([(M.Prb.mk 6 (M.mval c0z ([97,103,97,105,110]:List UInt8)) ([97,103,97,105,110]:List UInt8))])):=by first|rfl|exact hE|(rw[hE];done)|(rw[hE];rfl)
  refine⟨A20,c20,g19,rfl, ?_, ?_, ?_⟩
  · first|rfl|(dsimp only;rw[hN10,hE10];done)|(dsimp only;rw[hN10,hE10];rfl)|(dsimp only;simp only[hN10,hE10])|(rw[hN10,hE10];done)|(rw[hN10,hE10];rfl)
  all_goals (try dsimp only)
  all_goals (first|(rw[hN10,hE10];omega)|omega|(simp only[*];omega)|(simp;done))
 have h29:¬ (M.mhas c0z M.agaiT=true/\M.mhas c0z M.storT=false):=by have h9:=h15;intro h8;have h7:=Bool.eq_false_iff.1 h9;apply h7;simp only[Bool.and_eq_true,Bool.not_eq_true'];exact h8
 have hE:=M.mis_f hM hk2 h29
 refine Js.skip ?_
 refine zrbE [1,1,1] hb x3 ?_
 have hN10:(c0y++M.mis c0z end1).length=qs.length:=by first|rfl|exact hE|(rw[hE];done)|(rw[hE];rfl)
 have hE10:(c0y++M.mis c0z end1)=qs:=by first|rfl|exact hE|(rw[hE];done)|(rw[hE];rfl)
 refine⟨A3_0_9,c3_0_9,g3_0_9,rfl, ?_, ?_, ?_⟩
 · first|rfl|(dsimp only;rw[hN10,hE10];done)|(dsimp only;rw[hN10,hE10];rfl)|(dsimp only;simp only[hN10,hE10])|(rw[hN10,hE10];done)|(rw[hN10,hE10];rfl)
 all_goals (try dsimp only)
 all_goals (first|(rw[hN10,hE10];omega)|omega|(simp only[*];omega)|(simp;done))
theorem zq107(s:List UInt8){w:World}(h_tab:tabT.ok w undef)(r0:s.length<=4194304:=by exact om_):Ret Tryz.prog 188 [.string (sB s)] w (Ty.tup [Ty.agg (cRules ((M.chkT s).1)),Ty.sl 239 3 ((M.chkT s).2.1).length (lProblem ((M.chkT s).2.1)),Ty.int ((M.chkT s).2.2)]):=by
 refine enter @Tryz.func188 @Tryz.ntmps188 rfl rfl ?_
 refine zent ?_
 refine zS<|za zeh λb1=>Qa rfl<|Qa rfl<|zJ<|zS<|Qm rfl<|Qq (a0t und_9 rfl)<|Qg rfl rfl<|JL.nil ?_
 refine zi (λh2 h2'=>?_) λh2 h2'=>?_
 ·have hE:=M.chkT_5 (s:=s) (by have:=h2';omega)
  have hq0:0=((M.chkT s).1).pits:=rp_ hE
  have hq1:0=((M.chkT s).1).seeds:=rp_ hE
  have hq2:false=((M.chkT s).1).stores:=rp_ hE
  have hq3:false=((M.chkT s).1).skip:=rp_ hE
  have hq4:false=((M.chkT s).1).relay:=rp_ hE
  have hq5:false=((M.chkT s).1).feed:=rp_ hE
  have hq6:false=((M.chkT s).1).again:=rp_ hE
  have hq7:0=((M.chkT s).1).capture:=rp_ hE
  have hq8:0=((M.chkT s).1).slam:=rp_ hE
  have hq9:[]=(M.chkT s).2.1:=rp_ hE
  have hq10:5=(M.chkT s).2.2:=rp_ hE
  refine zS<|Qb ?_
  refine zw 0 rfl rfl rfl ?_
  refine Qa rfl<|Qa rfl<|JL.nil ?_
  exact zro (Up.refl _ _)
 have h200:¬ 200 < s.length:=by have:=h2';omega
 have hsl:=M.a1p 32 s
 refine Js.skip<|zS<|zbs λb3=>?_
 refine JL.e (e_mapNewS) ?_
 rintro _ _ _ ⟨b5,rfl,rfl,rfl⟩ _
 refine znl ?_
 refine Qb ?_
 refine zb rfl λb6=>Qa rfl<|zN<|Qa rfl<|zJ<|zS<|Qm rfl<|zp rfl (λw hw=>zq57 s) ?_
 intro u7 x7 A8 c8 h8 bl8 bh8
 refine Qz rfl<|Qm rfl<|JL.nil<|Js.block ?_
 refine zl [0,2,5,18,19] (λF U l os u m=>∃ (j k:Nat) (a:Int) (r:M.Rul) (qs:List M.Prb) (g:List (List UInt8×Int)) (A9_5_9:Option Addr) (c9_5_9:Nat) (g9_5_9:List Nat),l=F [(6,.int .i64 a),(20,.int .i64 (j:Int))]/\os=U [some (boxO b6 [.int .i64 r.pits,.int .i64 r.seeds,.bool r.stores,.bool r.skip,.bool r.relay,.bool r.feed,.bool r.again,.int .i64 r.capture,.int .i64 r.slam,.slice A9_5_9 qs.length c9_5_9,.map (some b5)] 244),some (mapS b5 g),some (rowO 239 3 (.slice A9_5_9 qs.length c9_5_9) qs.length (fltV vcProblem qs) g9_5_9)]/\(M.RelC ⟨r,qs,g⟩ (M.chkN s k))/\(M.PtI s j a k)/\(j<=(M.split 32 s).length)/\(k<=(M.wds s).length)/\(qs.length<=c9_5_9)/\(c9_5_9<=9223372036854775807)/\m=(M.split 32 s).length - j) ⟨0,0,0,M.Rul.zero,[],[],_,_,_,rfl,rfl,by exact M.RelC.zero,by exact M.PtI.zero s,zt,by omega,zu,zu,rfl⟩ ?_
 rintro _ _ u9 _ ⟨j,k,a,r,qs,g,A9_5_9,c9_5_9,g9_5_9,rfl,rfl,hR,hP,hj,hk,f9_4,f9_5,rfl⟩ x9
 refine zn ?_
 have hq9:=hR.plen
 dsimp only at hq9
 have ha9:=hP.a0
 have hwl:=M.a7p s
 have hsl:=M.a1p 32 s
 refine zS<|Ql rfl rfl<|zJ ?_
 refine zi (λh10 h10'=>?_) λh10 h10'=>?_
 ·obtain⟨ye11,hye11⟩:∃ x,(M.split 32 s)[j]?=some x:=⟨_,List.getElem?_eq_getElem (by omega)⟩
  have hY:(M.split 32 s)[j]?=some ye11:=hye11
  have hyl:=M.a1f 32 s ye11 (List.mem_of_getElem? hY)
  have hy12:=hye11
  obtain⟨b12,o12,he12,hc12⟩:=a0o (Ty.mono _ h8 x9.vis) hy12
  refine Js.skip<|Js.seq<|Js.block<|zS<|Qq (a0a el_31 rfl rfl (by omega) (by omega) he12)<|QC hc12 rfl<|Qa rfl<|zJ<|zS<|Qm rfl<|Qq (a2f und_9 rfl rfl)<|JL.nil ?_
  refine zi (λh13 h13'=>?_) λh13 h13'=>?_
  ·obtain⟨hP2,hw2,hp2⟩:=hP.word' hY (by simpa using h13)
   have hR2:=M.rel_word hR hw2 hp2
   have hkl:=(List.getElem?_eq_some_iff.1 hw2).1
   refine Js.region<|Qm rfl<|Qm rfl<|Qm rfl ?_
   refine zhl [0,1,0] ?_
   refine zB 3 sp_ rfl (λw hb hw=>zq105 r qs g a ye11 hb (ok_ hw)) ?_
   rintro _ _ G14 ⟨A14x_9,c14x_9,g14x_9,rfl,rfl,bl14_0,bl14_1⟩
   refine znl ?_
   refine zG<|Qm rfl<|Qm rfl<|Qq (a0t und_9 rfl)<|Qp rfl rfl<|Qp rfl rfl<|Qa rfl<|JL.nil<|Js.blockEnd<|Js.region<|Qp rfl rfl<|Qm rfl<|JL.nil ?_
   refine zd [0,1,0,1] rfl λu15 x15=>?_
   exact zag ⟨j + 1,k + 1,a + ((ye11.length:Int) + 1),((M.rdW (M.Rdr.mk r qs g) a ye11).rules),(M.rdW (M.Rdr.mk r qs g) a ye11).problems,(M.rdW (M.Rdr.mk r qs g) a ye11).given,_,_,_,rfl,rfl,by first|exact hR2|exact hR,by exact hP2,zt,by omega,zu,zu,rfl⟩ (x9.trans x15)
  have hP2:=hP.blank' hY (by simpa using h13)
  refine Js.skip<|Js.region<|Qm rfl<|Qm rfl<|Qq (a0t und_9 rfl)<|Qp rfl rfl<|Qp rfl rfl<|Qa rfl<|JL.nil<|Js.blockEnd<|Js.region<|Qp rfl rfl<|Qm rfl<|JL.nil ?_
  exact zag ⟨j + 1,k,a + ((ye11.length:Int) + 1),r,qs,g,_,_,_,rfl,rfl,by first|exact hR2|exact hR,by exact hP2,zt,by omega,zu,zu,rfl⟩ x9
 have hA:=M.rel_done hR hP (by have:=h10';omega) hk
 have hq9:=hR.plen
 dsimp only at hq9
 have hwl:=M.a7p s
 have hml:=M.mis_len g (s.length:Int)
 refine zx ?_
 refine zS<|Qm rfl<|Qm rfl<|Qq (a0t und_9 rfl) ?_
 refine zhl [0,1,0] ?_
 refine zB 3 sp_ rfl (λw hb hw=>zq106 r qs g (s.length:Int) hb) ?_
 rintro _ _ G16 ⟨A16x_9,c16x_9,g16x_9,rfl,rfl,bl16_0,bl16_1⟩
 refine znl ?_
 refine zJ<|zS<|Qm rfl<|Qc rfl<|Qf fh rfl<|Q0 0 rfl rfl rfl<|Qz rfl<|Qg rfl rfl<|JL.nil ?_
 refine zi (λh17 h17'=>?_) λh17 h17'=>?_
 ·have hE:=M.chkT_p h200 hA (by have:=h17';dsimp only;omega)
  refine Js.seq ?_
  refine zk [2] (λF U l os u=>l=F [(3,.slice A16x_9 ((qs++M.mis g (s.length:Int)).length) c16x_9),(4,.int .i64 0)]/\os=U []) ?_ ?_
  ·refine zdr [5] ?_
   refine JH.p 0 rfl (q_bld) ?_
   refine jM 1 rfl rfl ?_
   refine jN 2 rfl rfl ?_
   refine jF 3 b4m rfl rfl ?_
   refine y2 4 5 ?_ ?_
   ·refine JHo.q rfl (a0c b8d.h rfl (Mem.box (i:=0) rfl rfl)) ?_
    refine y1 5 ?_
    refine yst rfl rfl rfl ?_
    refine jA 6 rfl rfl ?_
    refine jA 7 rfl rfl ?_
    refine yd ?_
    exact zm ⟨rfl,rfl⟩ (Up.refl _ _)
   refine yst rfl rfl rfl ?_
   refine y1 4 ?_
   refine JHo.q rfl (a0c b8d.h rfl (Mem.box (i:=0) rfl rfl)) ?_
   refine jA 6 rfl rfl ?_
   refine jA 7 rfl rfl ?_
   refine yd ?_
   exact zm ⟨rfl,rfl⟩ (Up.refl _ _)
  rintro _ _ u18 ⟨rfl,rfl⟩ x18
  refine zn ?_
  have hq0:0=((M.chkT s).1).pits:=rp_ hE
  have hq1:0=((M.chkT s).1).seeds:=rp_ hE
  have hq2:false=((M.chkT s).1).stores:=rp_ hE
  have hq3:false=((M.chkT s).1).skip:=rp_ hE
  have hq4:false=((M.chkT s).1).relay:=rp_ hE
  have hq5:false=((M.chkT s).1).feed:=rp_ hE
  have hq6:false=((M.chkT s).1).again:=rp_ hE
  have hq7:0=((M.chkT s).1).capture:=rp_ hE
  have hq8:0=((M.chkT s).1).slam:=rp_ hE
  have hq9:(qs++M.mis g (s.length:Int))=(M.chkT s).2.1:=rp_ hE
  have hq10:0=(M.chkT s).2.2:=rp_ hE
  exact zro ((x7.trans x9).trans x18) (g:=by exact(a2o (gvc gv_ (gvc (b3c lProblem (xs:=(qs++M.mis g (s.length:Int))) po_ (by first|rfl|(simp[fltV];done)) (by first|with_reducible rfl|assumption|rfl)) (gvc gv_ gvn)))))
 have hE:=M.chkT_n h200 hA (by have:=h17';dsimp only;omega)
 refine Js.skip<|Js.seq ?_
 refine zk [2] (λF U l os u=>l=F [(3,.slice A16x_9 ((qs++M.mis g (s.length:Int)).length) c16x_9),(4,.int .i64 0)]/\os=U [nO,nO,nO,nO,some (boxO b1 [.int .i64 r.pits,.int .i64 r.seeds,.bool r.stores,.bool r.skip,.bool r.relay,.bool r.feed,.bool r.again,.int .i64 r.capture,.int .i64 r.slam] 25)]) ?_ ?_
 ·refine zdr [8] ?_
  refine jM 0 rfl rfl ?_
  refine jN 1 rfl rfl ?_
  refine jF 2 a3l rfl rfl ?_
  refine JH.q 3 rfl (L9 0 rfl rfl) ?_
  refine jM 4 rfl rfl ?_
  refine jN 5 rfl rfl ?_
  refine jF 6 b4m rfl rfl ?_
  refine y2 7 8 ?_ ?_
  ·refine JHo.q rfl (a0c b8d.h rfl (Mem.box (i:=0) rfl rfl)) ?_
   refine y1 8 ?_
   refine yst rfl rfl rfl ?_
   refine jA 9 rfl rfl ?_
   refine jA 10 rfl rfl ?_
   refine yd ?_
   exact zm ⟨rfl,rfl⟩ (Up.refl _ _)
  refine yst rfl rfl rfl ?_
  refine y1 7 ?_
  refine JHo.q rfl (a0c b8d.h rfl (Mem.box (i:=0) rfl rfl)) ?_
  refine jA 9 rfl rfl ?_
  refine jA 10 rfl rfl ?_
  refine yd ?_
  exact zm ⟨rfl,rfl⟩ (Up.refl _ _)
 rintro _ _ u19 ⟨rfl,rfl⟩ x19
 refine zn ?_
 have hq0:r.pits=((M.chkT s).1).pits:=rp_ hE
 have hq1:r.seeds=((M.chkT s).1).seeds:=rp_ hE
 have hq2:r.stores=((M.chkT s).1).stores:=rp_ hE
 have hq3:r.skip=((M.chkT s).1).skip:=rp_ hE
 have hq4:r.relay=((M.chkT s).1).relay:=rp_ hE
 have hq5:r.feed=((M.chkT s).1).feed:=rp_ hE
 have hq6:r.again=((M.chkT s).1).again:=rp_ hE
 have hq7:r.capture=((M.chkT s).1).capture:=rp_ hE
 have hq8:r.slam=((M.chkT s).1).slam:=rp_ hE
 have hq9:(qs++M.mis g (s.length:Int))=(M.chkT s).2.1:=rp_ hE
 have hq10:0=(M.chkT s).2.2:=rp_ hE
 exact zro ((x7.trans x9).trans x19) (g:=by exact(a2o (gvc gv_ (gvc (b3c lProblem (xs:=(qs++M.mis g (s.length:Int))) po_ (by first|rfl|(simp[fltV];done)) (by first|with_reducible rfl|assumption|rfl)) (gvc gv_ gvn)))))
theorem zq108(s:List UInt8){w:World}(h_tab:tabT.ok w undef)(r0:s.length<=4194304:=by exact om_):Ret Tryz.prog 160 [.string (sB s)] w (Ty.tup [Ty.agg (cRules ((M.readR s).1)),Ty.bool ((M.readR s).2)]):=by
 have hcl:=M.chkT_len s
 refine enter @Tryz.func160 @Tryz.ntmps160 rfl rfl ?_
 refine zent ?_
 refine zS<|za zeh λb1=>Qa rfl<|zN<|Qm rfl<|zcs rfl (λw hw=>zq107 s (ok_ hw)) ?_
 intro f3 A4 c4 bl4 bh4
 refine Qm rfl<|Qx rfl rfl<|Qx rfl rfl<|Qx rfl rfl<|za zeh λb5=>zw 0 rfl rfl rfl ?_
 refine Qa rfl<|Qa rfl<|zJ<|zS<|Qm rfl<|Qd rfl rfl<|Qm rfl<|zg (Gd.f1 rfl rfl rfl) (λhc=>a0e rfl)<|zg (Gd.f1 rfl rfl rfl) (λhc=>p_len a2z (gh hc rfl))<|zg (Gd.f1 rfl rfl rfl) (λhc=>p_gtr (gh hc rfl) rfl)<|Qq (a0j rfl rfl rfl)<|Qm rfl<|zgq (Gd.f1 rfl rfl rfl) (λhc=>L9 0 rfl rfl)<|zgv (Gd.f1 rfl rfl rfl) (λhc=>(opds_1 (gh hc rfl))) (λhc=>(λw hw=>zq53 ((M.chkT s).1) (ok_ hw) (ok_ hw))) ?_
 refine zg (Gd.f1 rfl rfl rfl) (λhc=>a0e rfl)<|zg (Gd.f1 rfl rfl rfl) (λhc=>a2f und_9 (gh hc rfl) (gh hc rfl))<|Qq (a0j rfl rfl rfl)<|JL.nil ?_
 refine zi (λh6 h6'=>?_) λh6 h6'=>?_
 ·have hE:=M.b3u (s:=s) (by have h9:=h6;simp only[Bool.or_eq_true,Bool.not_eq_true',decide_eq_true_eq,decide_eq_false_iff_not] at h9;rintro⟨a,b,c⟩;rcases h9 with(h9|h9)|h9;exact h9 a;(rw[b] at h9;exact absurd h9 (by decide));exact h9 c)
  have hq0:0=((M.readR s).1).pits:=rp_ hE
  have hq1:0=((M.readR s).1).seeds:=rp_ hE
  have hq2:false=((M.readR s).1).stores:=rp_ hE
  have hq3:false=((M.readR s).1).skip:=rp_ hE
  have hq4:false=((M.readR s).1).relay:=rp_ hE
  have hq5:false=((M.readR s).1).feed:=rp_ hE
  have hq6:false=((M.readR s).1).again:=rp_ hE
  have hq7:0=((M.readR s).1).capture:=rp_ hE
  have hq8:0=((M.readR s).1).slam:=rp_ hE
  have hq9:false=(M.readR s).2:=rp_ hE
  refine zS<|Qb ?_
  refine zw 3 rfl rfl rfl ?_
  refine Qa rfl<|JL.nil ?_
  exact zro (Up.refl _ _)
 have h8:(M.chkT s).2.2=0/\(M.chkT s).2.1=[]/\M.rulesTR (M.chkT s).1=s:=by have h9:=h6;simp only[Bool.or_eq_false_iff,Bool.not_eq_false',decide_eq_true_eq,decide_eq_false_iff_not] at h9;exact⟨h9.1.1,List.length_eq_zero_iff.1 (by have:=h9.1.2;omega),h9.2⟩
 have hE:=M.b7e h8.1 h8.2.1 h8.2.2
 have hq0:(((M.chkT s).1).pits)=((M.readR s).1).pits:=rp_ hE
 have hq1:(((M.chkT s).1).seeds)=((M.readR s).1).seeds:=rp_ hE
 have hq2:(((M.chkT s).1).stores)=((M.readR s).1).stores:=rp_ hE
 have hq3:(((M.chkT s).1).skip)=((M.readR s).1).skip:=rp_ hE
 have hq4:(((M.chkT s).1).relay)=((M.readR s).1).relay:=rp_ hE
 have hq5:(((M.chkT s).1).feed)=((M.readR s).1).feed:=rp_ hE
 have hq6:(((M.chkT s).1).again)=((M.readR s).1).again:=rp_ hE
 have hq7:(((M.chkT s).1).capture)=((M.readR s).1).capture:=rp_ hE
 have hq8:(((M.chkT s).1).slam)=((M.readR s).1).slam:=rp_ hE
 have hq9:true=(M.readR s).2:=rp_ hE
 refine Js.skip<|zS<|Q9 0 rfl rfl ?_
 refine zw 3 rfl rfl rfl ?_
 refine Qa rfl<|JL.nil ?_
 exact zro (Up.refl _ _)
theorem zq109(r:M.Rul){v_r:Value}(s:List UInt8){w:World}(h_r:(Ty.agg (cRules r)).ok w v_r)(h_tab:tabT.ok w undef)(r0:s.length<=4000000:=by exact om_):Ret Tryz.prog 161 [v_r,.string (sB s)] w (Ty.tup [Ty.agg (cPosition ((M.readP r s).1)),Ty.bool ((M.readP r s).2)]):=by
 revert v_r;apply opn
 refine enter @Tryz.func161 @Tryz.ntmps161 rfl rfl ?_
 refine zent ?_
 refine zS<|zb rfl λb1=>za zeh λb2=>Qa rfl<|zN<|Qm rfl<|zp rfl (λw hw=>zq57 s) ?_
 intro u3 x3 A4 c4 h4 bl4 bh4
 refine Qa rfl<|zJ<|zS<|Qm rfl<|Qz rfl<|Qd rfl rfl<|JL.nil ?_
 refine zi (λh5 h5'=>?_) λh5 h5'=>?_
 ·have hE:=M.a6k (r:=r) (s:=s) (by have:=h5';omega)
  have hq0:[]=((M.readP r s).1).pits:=rp_ hE
  have hq1:[]=((M.readP r s).1).stores:=rp_ hE
  have hq2:0=((M.readP r s).1).player:=rp_ hE
  have hq3:false=(M.readP r s).2:=rp_ hE
  refine zS<|Qb ?_
  refine zw 0 rfl rfl rfl ?_
  refine Qa rfl<|JL.nil ?_
  exact zro x3
 have h3:(M.split 32 s).length=3:=by have:=h5';omega
 have hw0:(M.split 32 s)[0]?=some (M.w3 s 0):=M.a9w (by omega)
 have hw1:(M.split 32 s)[1]?=some (M.w3 s 1):=M.a9w (by omega)
 have hw2:(M.split 32 s)[2]?=some (M.w3 s 2):=M.a9w (by omega)
 have q0:=M.a6p (s:=s) (i:=0)
 have q1:=M.a6p (s:=s) (i:=1)
 have q2:=M.a6p (s:=s) (i:=2)
 have q3:=M.a3c (M.w3 s 1) [47]
 have q8:=M.cutS_len2 (M.w3 s 1) [47]
 have q4:=M.a3h (M.cutS (M.w3 s 1) [47]).1
 have q5:=M.a3h (M.cutS (M.w3 s 1) [47]).2.1
 have q6:=M.a3h (M.w3 s 2)
 have q9:((M.nums (M.cutS (M.w3 s 1) [47]).1).1++(M.nums (M.cutS (M.w3 s 1) [47]).2.1).1).length<=4194304:=by rw[List.length_append];omega
 have hy6:=hw0
 obtain⟨b6,o6,he6,hc6⟩:=a0o h4 hy6
 have hy7:=hw1
 obtain⟨b7,o7,he7,hc7⟩:=a0o h4 hy7
 refine Js.skip<|zS<|Qm rfl<|Qq (a0a el_31 rfl rfl (by omega) (by omega) he6)<|QC hc6 rfl<|zv rfl (λw hw=>zq11 (M.w3 s 0) (ok_ hw))<|Qm rfl<|Qx rfl rfl<|Qx rfl rfl<|Qa rfl<|Qa rfl<|zN<|Qm rfl<|Qq (a0a el_31 rfl rfl (by omega) (by omega) he7) ?_
 refine QC hc7 rfl<|zv rfl (λw hw=>zq9 (M.w3 s 1) ([47]:List UInt8))<|Qm rfl<|Qx rfl rfl<|Qx rfl rfl<|Qx rfl rfl<|Qa rfl<|Qa rfl<|Qa rfl<|zN<|Qm rfl<|zcs rfl (λw hw=>zq31 ((M.cutS (M.w3 s 1) ([47]:List UInt8)).1) (ok_ hw)) ?_
 intro A9 c9 bl9 bh9
 refine Qm rfl<|Qx rfl rfl<|Qx rfl rfl<|Qa rfl<|Qa rfl<|zN<|Qm rfl<|zcs rfl (λw hw=>zq31 ((M.cutS (M.w3 s 1) ([47]:List UInt8)).2.1) (ok_ hw)) ?_
 intro A11 c11 bl11 bh11
 have hy12:=hw2
 obtain⟨b12,o12,he12,hc12⟩:=a0o h4 hy12
 refine Qm rfl<|Qx rfl rfl<|Qx rfl rfl<|Qa rfl<|Qa rfl<|zN<|Qm rfl<|Qq (a0a el_31 rfl rfl (by omega) (by omega) he12)<|QC hc12 rfl<|zcs rfl (λw hw=>zq31 (M.w3 s 2) (ok_ hw)) ?_
 intro A14 c14 bl14 bh14
 refine Qm rfl<|Qx rfl rfl<|Qx rfl rfl<|Qa rfl<|Qa rfl<|zJ<|zS<|Qm rfl<|Qt rfl<|Qm rfl<|zg (Gd.f1 rfl rfl rfl) (λhc=>a0e rfl)<|zg (Gd.f1 rfl rfl rfl) (λhc=>p_not (gh hc rfl))<|Qq (a0j rfl rfl rfl)<|Qm rfl ?_
 refine zg (Gd.f1 rfl rfl rfl) (λhc=>a0e rfl)<|zg (Gd.f1 rfl rfl rfl) (λhc=>p_not (gh hc rfl))<|Qq (a0j rfl rfl rfl)<|Qm rfl<|zg (Gd.f1 rfl rfl rfl) (λhc=>a0e rfl)<|zg (Gd.f1 rfl rfl rfl) (λhc=>p_not (gh hc rfl))<|Qq (a0j rfl rfl rfl)<|Qm rfl<|zg (Gd.f1 rfl rfl rfl) (λhc=>a0e rfl)<|zg (Gd.f1 rfl rfl rfl) (λhc=>p_not (gh hc rfl))<|Qq (a0j rfl rfl rfl)<|JL.nil ?_
 refine zi (λh15 h15'=>?_) λh15 h15'=>?_
 ·have hE:=M.a9q (r:=r) (s:=s) (by rintro⟨f1,f2,f3,f4,f5⟩;have h9:=h15;rw[f1,f2,f3,f4,f5] at h9;simp at h9)
  have hq0:[]=((M.readP r s).1).pits:=rp_ hE
  have hq1:[]=((M.readP r s).1).stores:=rp_ hE
  have hq2:0=((M.readP r s).1).player:=rp_ hE
  have hq3:false=(M.readP r s).2:=rp_ hE
  refine zS<|Qb ?_
  refine zw 3 rfl rfl rfl ?_
  refine Qa rfl<|JL.nil ?_
  exact zro x3
 have hf5:M.first5 s:=by have h9:=h15;simp only[Bool.or_eq_false_iff,Bool.not_eq_false'] at h9;exact⟨h9.1.1.1.1,h9.1.1.1.2,h9.1.1.2,h9.1.2,h9.2⟩
 refine Js.skip<|zS<|Qm rfl<|Qm rfl ?_
 refine JL.e (a0g (i:=2) (n':=(((M.nums ((M.cutS (M.w3 s 1) ([47]:List UInt8)).1)).1)++((M.nums ((M.cutS (M.w3 s 1) ([47]:List UInt8)).2.1)).1)).length) (vs':=ints_ (((M.nums ((M.cutS (M.w3 s 1) ([47]:List UInt8)).1)).1)++((M.nums ((M.cutS (M.w3 s 1) ([47]:List UInt8)).2.1)).1))) el_26 rfl rfl rfl rfl (b9x (i:=1) a1h rfl (b7s _)) (by omega) (by omega) ln2_ (by simp[ints_])) ?_
 rintro v16 _ _ ⟨⟨g17,rfl⟩,rfl⟩ _
 refine JL.fact (row_form' (i:=2) rfl) (λhf18=>?_)
 obtain⟨A18,c18,rfl,bl18,bh18⟩:=hf18
 refine znl ?_
 have q10:(M.Pos.mk ((M.nums (M.cutS (M.w3 s 1) [47]).1).1++(M.nums (M.cutS (M.w3 s 1) [47]).2.1).1) (M.nums (M.w3 s 2)).1 (M.num (M.w3 s 0)).1).pits.length<=4194304:=q9
 have q11:(M.Pos.mk ((M.nums (M.cutS (M.w3 s 1) [47]).1).1++(M.nums (M.cutS (M.w3 s 1) [47]).2.1).1) (M.nums (M.w3 s 2)).1 (M.num (M.w3 s 0)).1).stores.length<=4194304:=by show(M.nums (M.w3 s 2)).1.length<=4194304;omega
 refine Qm rfl<|Qm rfl<|Qb ?_
 refine za zeh λb19=>zw 0 rfl rfl rfl ?_
 refine zJ<|zS<|Q9 5 rfl rfl ?_
 refine Q9 0 rfl rfl ?_
 refine zv rfl (λw hw=>zq23 r (M.Pos.mk (((M.nums ((M.cutS (M.w3 s 1) ([47]:List UInt8)).1)).1)++((M.nums ((M.cutS (M.w3 s 1) ([47]:List UInt8)).2.1)).1)) ((M.nums (M.w3 s 2)).1) ((M.num (M.w3 s 0)).1)) (ok_ hw) (ok_ hw))<|Qt rfl<|Qm rfl<|zgq (Gd.f1 rfl rfl rfl) (λhc=>L9 5 rfl rfl)<|zgq (Gd.f1 rfl rfl rfl) (λhc=>L9 0 rfl rfl)<|zgv (Gd.f1 rfl rfl rfl) (λhc=>(a2d (gh hc rfl) (gh hc rfl))) (λhc=>(λw hw=>zq50 r (M.Pos.mk (((M.nums ((M.cutS (M.w3 s 1) ([47]:List UInt8)).1)).1)++((M.nums ((M.cutS (M.w3 s 1) ([47]:List UInt8)).2.1)).1)) ((M.nums (M.w3 s 2)).1) ((M.num (M.w3 s 0)).1)) (ok_ hw) (ok_ hw) (ok_ hw) (r0:=(by have hc9:=hc;(try simp only[Bool.not_eq_true',Bool.not_eq_false'] at hc9);omega)) (r1:=(by have hc9:=hc;(try simp only[Bool.not_eq_true',Bool.not_eq_false'] at hc9);omega)))) ?_
 refine zg (Gd.f1 rfl rfl rfl) (λhc=>a0e rfl)<|zg (Gd.f1 rfl rfl rfl) (λhc=>a2f und_9 (gh hc rfl) (gh hc rfl))<|Qq (a0j rfl rfl rfl)<|JL.nil ?_
 refine zi (λh20 h20'=>?_) λh20 h20'=>?_
 ·have hE:=M.b6b (r:=r) h3 hf5 (by have h9:=h20;change (!M.okP r (M.readQ s) || !decide (M.posTextR r (M.readQ s)=s))=true at h9;simpa using h9)
  have hq0:[]=((M.readP r s).1).pits:=rp_ hE
  have hq1:[]=((M.readP r s).1).stores:=rp_ hE
  have hq2:0=((M.readP r s).1).player:=rp_ hE
  have hq3:false=(M.readP r s).2:=rp_ hE
  refine zS<|Qb ?_
  refine zw 4 rfl rfl rfl ?_
  refine Qa rfl<|JL.nil ?_
  exact zro x3
 have h8:M.okP r (M.readQ s)=true/\M.posTextR r (M.readQ s)=s:=by have h9:=h20;change (!M.okP r (M.readQ s) || !decide (M.posTextR r (M.readQ s)=s))=false at h9;simpa using h9
 have hE:=M.b1l h3 hf5 h8.1 h8.2
 have hq0:(((M.nums ((M.cutS (M.w3 s 1) ([47]:List UInt8)).1)).1)++((M.nums ((M.cutS (M.w3 s 1) ([47]:List UInt8)).2.1)).1))=((M.readP r s).1).pits:=rp_ hE
 have hq1:((M.nums (M.w3 s 2)).1)=((M.readP r s).1).stores:=rp_ hE
 have hq2:((M.num (M.w3 s 0)).1)=((M.readP r s).1).player:=rp_ hE
 have hq3:true=(M.readP r s).2:=rp_ hE
 refine Js.skip<|zS<|Q9 0 rfl rfl ?_
 refine zw 4 rfl rfl rfl ?_
 refine Qa rfl<|JL.nil ?_
 exact zro x3
end Go.Proofs.YtjgohnaobbphpaaGreatDoor

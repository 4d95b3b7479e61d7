/- Walks: K57. -/
import Derived.Test.YtjgohnaobbphpaaGreatDoorZdA4
import Derived.Test.YtjgohnaobbphpaaGreatDoorZdA12
import Derived.Test.YtjgohnaobbphpaaGreatDoorZdA7
import Derived.Test.YtjgohnaobbphpaaGreatDoorZdA5
import Derived.Test.YtjgohnaobbphpaaGreatDoorZdA11
import Derived.Test.YtjgohnaobbphpaaGreatDoorZdA10
import Derived.Test.YtjgohnaobbphpaaGreatDoorZdA1
import Derived.Test.YtjgohnaobbphpaaGreatDoorZdA0
import Derived.Test.YtjgohnaobbphpaaGreatDoorZdA2
set_option linter.unusedSimpArgs false
set_option linter.unusedVariables false
set_option maxRecDepth 100000
attribute [local irreducible] Go.Proofs.YtjgohnaobbphpaaGreatDoor.gv
set_option maxHeartbeats 16000000
namespace Go.Proofs.YtjgohnaobbphpaaGreatDoor
open Go.RowKit
theorem zq26(line word:List UInt8){w:World}(r0:line.length<=100000:=by exact om_)(r1:word.length<=1000:=by exact om_):RetV Tryz.prog 117 [.string (sB line),.string (sB word)] w (.tuple #[.string (sB ((M.aft line word).1)),.bool ((M.aft line word).2)]):=by
 have lbw:LenB word 1000:=⟨r1⟩
 refine enter @Tryz.func117 @Tryz.ntmps117 rfl rfl ?_
 refine zent ?_
 refine zS<|Qa rfl<|Qa rfl<|zN<|Qm rfl<|Qq (a0t und_9 rfl)<|Qp rfl rfl<|Qa rfl<|zJ<|Js.seq ?_
 rcases Bool.eq_false_or_eq_true (decide ((line.length:Int) < (word.length:Int) + 1)) with h1|h1
 ·have h1':=h1;simp only[decide_eq_true_eq,Int.not_lt,Int.not_le] at h1'
  refine Js.region<|Qm rfl<|Qq (a0t und_9 rfl)<|Qm rfl<|Ql rfl rfl<|Qm rfl ?_
  refine JL.g (v:=undef) (Gd.f1 rfl rfl rfl) (λhc=>absurd hc (by first|(rw[h1];simp;done)|simp[h1])) ?_
  refine JL.g (v:=undef) (Gd.f1 rfl rfl rfl) (λhc=>absurd hc (by first|(rw[h1];simp;done)|simp[h1])) ?_
  refine JL.g (v:=undef) (Gd.f1 rfl rfl rfl) (λhc=>absurd hc (by first|(rw[h1];simp;done)|simp[h1])) ?_
  refine JL.g (v:=undef) (Gd.f1 rfl rfl rfl) (λhc=>absurd hc (by first|(rw[h1];simp;done)|simp[h1])) ?_
  refine JL.g (v:=undef) (Gd.f1 rfl rfl rfl) (λhc=>absurd hc (by first|(rw[h1];simp;done)|simp[h1])) ?_
  refine JL.g (v:=.bool false) (Gd.f1 rfl rfl rfl) (λhc=>absurd hc (by first|(rw[h1];simp;done)|simp[h1])) ?_
  refine Qq (a0j rfl rfl rfl)<|JL.nil ?_
  have hE:=M.aft_n (t:=line) (w:=word) (fun ⟨d1,d2⟩=>by have h9:=h1;first|omega|(simp[d2] at h9;omega)|(simp[d2] at h9))
  refine Js.condT rfl (by rw[h1];rfl) ?_
  refine zS<|Qa rfl<|Qa rfl<|JL.nil ?_
  refine zR (Up.refl _ _) ?_
  first|(rw[hE];done)|(rw[hE];rfl)
 have h1':=h1;simp only[decide_eq_false_iff_not,Int.not_lt,Int.not_le] at h1'
 refine Js.region<|Qm rfl<|Qq (a0t und_9 rfl)<|Qm rfl<|Ql rfl rfl<|Qm rfl<|zT (Gd.f1 rfl rfl rfl) (show(!(decide ((line.length:Int) < (word.length:Int) + 1)))=true by first|exact h1|(rw[h1];rfl)|simp[h1])<|Qm rfl<|zT (Gd.f1 rfl rfl rfl) (show(!(decide ((line.length:Int) < (word.length:Int) + 1)))=true by first|exact h1|(rw[h1];rfl)|simp[h1])<|Qm rfl<|zT (Gd.f1 rfl rfl rfl) (show(!(decide ((line.length:Int) < (word.length:Int) + 1)))=true by first|exact h1|(rw[h1];rfl)|simp[h1])<|Qq (a4o (i:=word.length + 1) und_9 rfl rfl (by omega))<|zT (Gd.f1 rfl rfl rfl) (show(!(decide ((line.length:Int) < (word.length:Int) + 1)))=true by first|exact h1|(rw[h1];rfl)|simp[h1])<|Qm rfl ?_
 refine zT (Gd.f1 rfl rfl rfl) (show(!(decide ((line.length:Int) < (word.length:Int) + 1)))=true by first|exact h1|(rw[h1];rfl)|simp[h1])<|Qq (q_cat rfl rfl)<|zT (Gd.f1 rfl rfl rfl) (show(!(decide ((line.length:Int) < (word.length:Int) + 1)))=true by first|exact h1|(rw[h1];rfl)|simp[h1])<|Qq (a2f und_9 rfl rfl)<|Qq (p_pickOr2 rfl rfl rfl)<|JL.nil ?_
 refine zi (λh2 h2'=>?_) λh2 h2'=>?_
 ·have hE:=M.aft_n (t:=line) (w:=word) (fun ⟨d1,d2⟩=>by have h9:=h2;first|omega|(simp[d2] at h9;omega)|(simp[d2] at h9))
  refine zS<|Qa rfl<|Qa rfl<|JL.nil ?_
  refine zR (Up.refl _ _) ?_
  first|(rw[hE];done)|(rw[hE];rfl)
 have hE:=M.aft_y (t:=line) (w:=word) (by have h9:=h2;simp at h9;omega) (by have h9:=h2;simp at h9;first|exact h9.2|exact h9)
 refine Js.skip<|zS<|Qm rfl<|Qm rfl<|Qq (a4m (i:=word.length + 1) und_9 rfl rfl (by omega))<|Qa rfl<|Qa rfl<|JL.nil ?_
 refine zR (Up.refl _ _) ?_
 first|(rw[hE];done)|(rw[hE];rfl)
theorem zq118(line:List UInt8){w:World}(r0:line.length<=100000:=by exact om_):RetV Tryz.prog 158 [.string (sB line)] w (.tuple #[.int .i64 ((M.numR line).1.1),.int .i64 ((M.numR line).1.2.1),.int .i64 ((M.numR line).1.2.2),.bool ((M.numR line).2)]):=by
 refine enter @Tryz.func158 @Tryz.ntmps158 rfl rfl ?_
 refine zent ?_
 refine zS<|Qa rfl<|Qa rfl<|Qa rfl<|Qa rfl<|zN<|Qm rfl<|zp rfl (λw hw=>zq12 line 32) ?_
 intro u1 x1 A2 c2 h2 bl2 bh2
 have hp:0 < (M.split (M.u8 32) line).length:=List.length_pos_iff.2 (M.a4q 32 line)
 obtain⟨ye3,hye3⟩:∃ x,(M.split (M.u8 32) line)[0]?=some x:=⟨_,List.getElem?_eq_getElem (by omega)⟩
 have hm_w0:=M.a1f 32 _ _ (List.mem_of_getElem? hye3)
 refine Qa rfl<|zJ<|Js.seq ?_
 refine zdr [] ?_
 refine jM 0 rfl rfl ?_
 refine JH.p 1 rfl (p_len el_31 rfl) ?_
 refine JH.p 2 rfl (p_neq rfl rfl) ?_
 refine jM 3 rfl rfl ?_
 refine JH.pg 4 rfl (Gd.f1 rfl rfl rfl) (λhc=>a0e rfl) ?_
 have hy4:=hye3
 obtain⟨b4,o4,he4,hc4⟩:=a0o h2 hy4
 refine JH.pg 5 rfl (Gd.f1 rfl rfl rfl) (λhc=>a0a el_31 (gvt rfl hc) rfl (by omega) (by omega) he4) ?_
 refine JH.wg 6 rfl (Gd.f1 rfl rfl rfl) (λhc os' u' hv=>a0c ty_9.h (gvt rfl hc) (Mem.pub (hc4.vis hv))) ?_
 refine JH.pg 7 rfl (Gd.f1 rfl rfl rfl) (λhc=>a0t und_9 (gvt rfl hc)) ?_
 refine JH.pg 8 rfl (Gd.f1 rfl rfl rfl) (λhc=>p_lss (gvt rfl hc) rfl) ?_
 refine JH.p 9 rfl (a0j rfl rfl rfl) ?_
 refine jM 10 rfl rfl ?_
 refine JH.pg 11 rfl (Gd.f1 rfl rfl rfl) (λhc=>a0e rfl) ?_
 have hy5:=hye3
 obtain⟨b5,o5,he5,hc5⟩:=a0o h2 hy5
 refine JH.pg 12 rfl (Gd.f1 rfl rfl rfl) (λhc=>a0a el_31 (gvt rfl hc) rfl (by omega) (by omega) he5) ?_
 refine JH.wg 13 rfl (Gd.f1 rfl rfl rfl) (λhc os' u' hv=>a0c ty_9.h (gvt rfl hc) (Mem.pub (hc5.vis hv))) ?_
 refine JH.pg 14 rfl (Gd.f1 rfl rfl rfl) (λhc=>a0e rfl) ?_
 have hy6:=hye3
 obtain⟨b6,o6,he6,hc6⟩:=a0o h2 hy6
 refine JH.pg 15 rfl (Gd.f1 rfl rfl rfl) (λhc=>a0a el_31 (gvt rfl hc) rfl (by omega) (by omega) he6) ?_
 refine JH.wg 16 rfl (Gd.f1 rfl rfl rfl) (λhc os' u' hv=>a0c ty_9.h (gvt rfl hc) (Mem.pub (hc6.vis hv))) ?_
 refine JH.pg 17 rfl (Gd.f1 rfl rfl rfl) (λhc=>a0t und_9 (gvt rfl hc)) ?_
 refine JH.pg 18 rfl (Gd.f1 rfl rfl rfl) (λhc=>p_sub (gvt rfl hc) rfl (IntWalk.i64_in _ (by have hc9:=hc;(try simp only[Bool.not_eq_true',Bool.or_eq_false_iff,Bool.not_eq_false',decide_eq_true_eq,decide_eq_false_iff_not,Int.not_lt] at hc9);omega))) ?_
 refine y1 19 ?_
 have hbt7:=M.a3b ye3 (((ye3.length:Int) - 1).toNat)
 refine JHo.qg rfl (Gd.f1 rfl rfl rfl) (λhc=>OpP.q (a1w (i:=((ye3.length:Int) - 1).toNat) und_9 (gvt rfl hc) (by rw[Int.toNat_of_nonneg (by first|omega|(have h9:=hc;simp at h9;omega))];exact(gvt rfl hc)) (by first|have hc9:=hc;(try simp only[Bool.not_eq_true',Bool.or_eq_false_iff,Bool.not_eq_false',decide_eq_true_eq,decide_eq_false_iff_not,Int.not_lt] at hc9);omega|(have h9:=List.length_pos_iff.2 (by simpa using hc);omega)|(have h9:=hc;simp at h9;omega)))) ?_
 refine JH.pg 20 rfl (Gd.f1 rfl rfl rfl) (λhc=>p_neq (gvt rfl hc) rfl) ?_
 refine JH.p 21 rfl (a0j rfl rfl rfl) ?_
 refine yd ?_
 refine zi (λh8 h8'=>?_) λh8 h8'=>?_
 ·have hE:=M.numR_n (t:=line) (λhf=>by have h9:=h8;have f1:(M.split (M.u8 32) line).length=2:=hf.1;obtain⟨f2,f3⟩:=M.fmS_0 hye3 hf;have f4:=(M.bat_46 (a:=ye3) (k:=ye3.length - 1) (by omega)).2 f3;simp[f1,f4] at h9;omega)
  refine zS<|Qa rfl<|Qa rfl<|Qa rfl<|Qa rfl<|JL.nil ?_
  refine zR x1 ?_
  first|(rw[hE];done)|(rw[hE];rfl)
 have hq9:=h8
 have k2:(M.split 32 line).length=2:=by have h9:=hq9;simp at h9;have h8:=h9.1.1;first|exact h8|(exact_mod_cast h8)
 have kl:2<=ye3.length:=by have h9:=hq9;simp at h9;omega
 have kd:ye3[ye3.length - 1]?=some 46:=by have h9:=hq9;simp at h9;exact(M.bat_46 (a:=ye3) (k:=ye3.length - 1) (by omega)).1 h9.2
 have hp1:1 < (M.split (M.u8 32) line).length:=by have h9:(M.split (M.u8 32) line).length=2:=k2;omega
 obtain⟨ye9,hye9⟩:∃ x,(M.split (M.u8 32) line)[1]?=some x:=⟨_,List.getElem?_eq_getElem (by omega)⟩
 have hm_w1:=M.a1f 32 _ _ (List.mem_of_getElem? hye9)
 have hy10:=hye9
 obtain⟨b10,o10,he10,hc10⟩:=a0o h2 hy10
 refine Js.skip<|zS<|Qm rfl<|Qq (a0a el_31 rfl rfl (by omega) (by omega) he10)<|QC hc10 rfl<|zp rfl (λw hw=>zq12 ye9 43) ?_
 intro u11 x11 A12 c12 h12 bl12 bh12
 refine Qa rfl<|zJ<|zS<|Qm rfl<|Qz rfl<|Qd rfl rfl<|JL.nil ?_
 refine zi (λh13 h13'=>?_) λh13 h13'=>?_
 ·have hE:=M.numR_n (t:=line) (λhf=>by have h8:=h13';have h9:(M.split (M.u8 43) ye9).length=2:=M.fmS_1 hye9 hf;omega)
  refine zS<|Qa rfl<|Qa rfl<|Qa rfl<|Qa rfl<|JL.nil ?_
  refine zR (x1.trans x11) ?_
  first|(rw[hE];done)|(rw[hE];rfl)
 have v2:(M.split (M.u8 43) ye9).length=2:=by have h8:=h13';omega
 obtain⟨ye14,hye14⟩:∃ x,(M.split (M.u8 43) ye9)[0]?=some x:=⟨_,List.getElem?_eq_getElem (by omega)⟩
 have hm_v0:=M.a1f 43 _ _ (List.mem_of_getElem? hye14)
 obtain⟨ye15,hye15⟩:∃ x,(M.split (M.u8 43) ye9)[1]?=some x:=⟨_,List.getElem?_eq_getElem (by omega)⟩
 have hm_v1:=M.a1f 43 _ _ (List.mem_of_getElem? hye15)
 have hE:=M.numR_y k2 hye3 hye9 kl kd v2 hye14 hye15
 rw[show ye3.length - 1=((ye3.length:Int) - 1).toNat by omega] at hE
 refine Js.skip<|Js.seq ?_
 refine zdr [] ?_
 refine jM 0 rfl rfl ?_
 have hy16:=hye3
 obtain⟨b16,o16,he16,hc16⟩:=a0o (Ty.mono _ h2 x11.vis) hy16
 refine jI 1 el_31 rfl rfl rfl he16 ?_
 refine jW 2 ty_9 rfl rfl hc16.vis ?_
 refine jM 3 rfl rfl ?_
 have hy17:=hye3
 obtain⟨b17,o17,he17,hc17⟩:=a0o (Ty.mono _ h2 x11.vis) hy17
 refine jI 4 el_31 rfl rfl rfl he17 ?_
 refine jW 5 ty_9 rfl rfl hc17.vis ?_
 refine JH.p 6 rfl (a0t und_9 rfl) ?_
 refine JH.p 7 rfl (p_sub rfl rfl (IntWalk.i64_in _ (by omega))) ?_
 refine JH.p 8 rfl (a4o (i:=((ye3.length:Int) - 1).toNat) und_9 rfl (by rw[Int.toNat_of_nonneg (by omega)];exact rfl) (by omega)) ?_
 refine y1 9 ?_
 refine yv rfl rfl (λw hw=>zq8 (ye3.take (((ye3.length:Int) - 1).toNat)) (r0:=(by first|omega|(rw[List.length_take];omega)))) ?_
 refine jM 10 rfl rfl ?_
 refine JH.p 11 rfl (a0p rfl rfl) ?_
 refine JH.p 12 rfl (a0p rfl rfl) ?_
 refine jA 13 rfl rfl ?_
 refine jA 14 rfl rfl ?_
 refine yd ?_
 have hy18:=hye14
 obtain⟨b18,o18,he18,hc18⟩:=a0o h12 hy18
 have hy19:=hye15
 obtain⟨b19,o19,he19,hc19⟩:=a0o h12 hy19
 refine zS<|Qm rfl<|Qq (a0a el_31 rfl rfl (by omega) (by omega) he18)<|QC hc18 rfl<|zv rfl (λw hw=>zq8 ye14 (r0:=(by first|omega|(rw[List.length_take];omega))))<|Qm rfl<|Qx rfl rfl<|Qx rfl rfl<|Qa rfl<|Qa rfl<|zN<|Qm rfl<|Qq (a0a el_31 rfl rfl (by omega) (by omega) he19)<|QC hc19 rfl ?_
 refine zv rfl (λw hw=>zq8 ye15 (r0:=(by first|omega|(rw[List.length_take];omega))))<|Qm rfl<|Qx rfl rfl<|Qx rfl rfl<|Qa rfl<|Qa rfl<|zN<|Qm rfl<|Qm rfl<|Qm rfl<|Qm rfl<|Qm rfl<|zg (Gd.t1 rfl rfl rfl) (λhc=>a0e rfl)<|Qq (a0d rfl rfl rfl) ?_
 refine Qm rfl<|zg (Gd.t1 rfl rfl rfl) (λhc=>a0e rfl)<|Qq (a0d rfl rfl rfl)<|Qa rfl<|Qa rfl<|Qa rfl<|Qa rfl<|JL.nil ?_
 refine zR (x1.trans x11) ?_
 first|(rw[hE];done)|(rw[hE];rfl)
theorem zq64(g:M.Gam){v_g:Value}(line:List UInt8){w:World}(h_g:(Ty.ref (cGame g)).ok w v_g)(r0:g.start.pits.length<=4194304:=by exact om_)(r1:g.start.stores.length<=4194304:=by exact om_)(r2:g.moves.length<=120:=by exact om_)(r3:g.now.pits.length<=4194304:=by exact om_)(r4:g.now.stores.length<=4194304:=by exact om_)(r5:line.length<=100000:=by exact om_):Ret Tryz.prog 118 [v_g,.string (sB line)] w (Ty.tup [Ty.agg (cGame ((M.nextR g (M.numR line)).1)),Ty.int ((M.nextR g (M.numR line)).2)]):=by
 revert v_g;apply opn
 intro b6 o6 A1 c1 h1 bl1 bh1 A2 c2 h2 bl2 bh2 A3 c3 h3 bl3 bh3 A4 c4 h4 bl4 bh4 A5 c5 h5 bl5 bh5 hr6
 refine enter @Tryz.func118 @Tryz.ntmps118 rfl rfl ?_
 refine zent ?_
 refine zS<|za zeh λb7=>Qa rfl<|zN<|Qm rfl<|zv rfl (λw hw=>zq118 line)<|Qm rfl<|Qx rfl rfl<|Qx rfl rfl<|Qx rfl rfl<|Qx rfl rfl<|Qa rfl<|Qa rfl<|Qa rfl ?_
 refine Qa rfl<|zJ<|zS<|Qm rfl<|Qt rfl<|JL.nil ?_
 refine zi (λh8 h8'=>?_) λh8 h8'=>?_
 ·have hE:=M.b0q (g:=g) (x:=(M.numR line)) (by simpa using h8)
  have hq0:0=(((M.nextR g (M.numR line)).1).rules).pits:=rp_ hE
  have hq1:0=(((M.nextR g (M.numR line)).1).rules).seeds:=rp_ hE
  have hq2:false=(((M.nextR g (M.numR line)).1).rules).stores:=rp_ hE
  have hq3:false=(((M.nextR g (M.numR line)).1).rules).skip:=rp_ hE
  have hq4:false=(((M.nextR g (M.numR line)).1).rules).relay:=rp_ hE
  have hq5:false=(((M.nextR g (M.numR line)).1).rules).feed:=rp_ hE
  have hq6:false=(((M.nextR g (M.numR line)).1).rules).again:=rp_ hE
  have hq7:0=(((M.nextR g (M.numR line)).1).rules).capture:=rp_ hE
  have hq8:0=(((M.nextR g (M.numR line)).1).rules).slam:=rp_ hE
  have hq9:[]=(((M.nextR g (M.numR line)).1).start).pits:=rp_ hE
  have hq10:[]=(((M.nextR g (M.numR line)).1).start).stores:=rp_ hE
  have hq11:0=(((M.nextR g (M.numR line)).1).start).player:=rp_ hE
  have hq12:[]=((M.nextR g (M.numR line)).1).moves:=rp_ hE
  have hq13:[]=(((M.nextR g (M.numR line)).1).now).pits:=rp_ hE
  have hq14:[]=(((M.nextR g (M.numR line)).1).now).stores:=rp_ hE
  have hq15:0=(((M.nextR g (M.numR line)).1).now).player:=rp_ hE
  have hq16:0=((M.nextR g (M.numR line)).1).resigned:=rp_ hE
  have hq17:3=(M.nextR g (M.numR line)).2:=rp_ hE
  refine zS<|Qb ?_
  refine zw 0 rfl rfl rfl ?_
  refine Qa rfl<|JL.nil ?_
  exact zro (Up.refl _ _)
 have c1:(M.numR line).2=true:=by simpa using h8
 refine Js.skip<|Js.seq<|zS<|Qm rfl<|Qm rfl<|Qc rfl<|Qf fh rfl<|QC (hr6 12 _ rfl) rfl<|Qz rfl<|Qp rfl rfl<|Qd rfl rfl<|JL.nil ?_
 refine zi (λh9 h9'=>?_) λh9 h9'=>?_
 ·have hE:=M.nextR_4 (g:=g) c1 (by simpa using h9)
  have hq0:0=(((M.nextR g (M.numR line)).1).rules).pits:=rp_ hE
  have hq1:0=(((M.nextR g (M.numR line)).1).rules).seeds:=rp_ hE
  have hq2:false=(((M.nextR g (M.numR line)).1).rules).stores:=rp_ hE
  have hq3:false=(((M.nextR g (M.numR line)).1).rules).skip:=rp_ hE
  have hq4:false=(((M.nextR g (M.numR line)).1).rules).relay:=rp_ hE
  have hq5:false=(((M.nextR g (M.numR line)).1).rules).feed:=rp_ hE
  have hq6:false=(((M.nextR g (M.numR line)).1).rules).again:=rp_ hE
  have hq7:0=(((M.nextR g (M.numR line)).1).rules).capture:=rp_ hE
  have hq8:0=(((M.nextR g (M.numR line)).1).rules).slam:=rp_ hE
  have hq9:[]=(((M.nextR g (M.numR line)).1).start).pits:=rp_ hE
  have hq10:[]=(((M.nextR g (M.numR line)).1).start).stores:=rp_ hE
  have hq11:0=(((M.nextR g (M.numR line)).1).start).player:=rp_ hE
  have hq12:[]=((M.nextR g (M.numR line)).1).moves:=rp_ hE
  have hq13:[]=(((M.nextR g (M.numR line)).1).now).pits:=rp_ hE
  have hq14:[]=(((M.nextR g (M.numR line)).1).now).stores:=rp_ hE
  have hq15:0=(((M.nextR g (M.numR line)).1).now).player:=rp_ hE
  have hq16:0=((M.nextR g (M.numR line)).1).resigned:=rp_ hE
  have hq17:4=(M.nextR g (M.numR line)).2:=rp_ hE
  refine zS<|Qb ?_
  refine zw 0 rfl rfl rfl ?_
  refine Qa rfl<|JL.nil ?_
  exact zro (Up.refl _ _)
 have c2:(M.numR line).1.1=(g.moves.length:Int) + 1:=by simpa using h9
 refine Js.skip<|Js.seq ?_
 refine zk [0,4,7,8] (λF U l os u=>∃ (b13:Nat) (A11:Option Addr) (c11:Nat) (A12:Option Addr) (c12:Nat),l=F [(10,.pointer (some ⟨b13,0,none⟩))]/\os=[boxO b13 [.int .i64 (((M.make g.rules g.now ((M.numR line).1.2.1)).1).move),.int .i64 (((M.make g.rules g.now ((M.numR line).1.2.1)).1).gain),.bool (((M.make g.rules g.now ((M.numR line).1.2.1)).1).again),.slice A11 (((((M.make g.rules g.now ((M.numR line).1.2.1)).1).next).pits).length) c11,.slice A12 (((((M.make g.rules g.now ((M.numR line).1.2.1)).1).next).stores).length) c12,.int .i64 ((((M.make g.rules g.now ((M.numR line).1.2.1)).1).next).player)] 109]++U []/\(((((M.make g.rules g.now ((M.numR line).1.2.1)).1).next).pits).length<=c11)/\(c11<=9223372036854775807)/\((Ty.ints 2 ((((M.make g.rules g.now ((M.numR line).1.2.1)).1).next).pits)).ok u (.slice A11 (((((M.make g.rules g.now ((M.numR line).1.2.1)).1).next).pits).length) c11))/\(((((M.make g.rules g.now ((M.numR line).1.2.1)).1).next).stores).length<=c12)/\(c12<=9223372036854775807)/\((Ty.ints 2 ((((M.make g.rules g.now ((M.numR line).1.2.1)).1).next).stores)).ok u (.slice A12 (((((M.make g.rules g.now ((M.numR line).1.2.1)).1).next).stores).length) c12))) ?_ ?_
 ·refine zdr [12] ?_
  refine jM 0 rfl rfl ?_
  refine jN 1 rfl rfl ?_
  refine jF 2 a1u rfl rfl ?_
  refine jM 3 rfl rfl ?_
  refine jN 4 rfl rfl ?_
  refine jF 5 a1r rfl rfl ?_
  refine jM 6 rfl rfl ?_
  refine y2 7 11 ?_ ?_
  ·refine yp rfl rfl (λw hw=>zq13 g.rules g.now ((M.numR line).1.2.1) (ok_ hw) (ok_ hw)) ?_
   intro u19 x19 A20 c20 h20 bl20 bh20 A21 c21 h21 bl21 bh21
   refine jM 8 rfl rfl ?_
   refine JH.p 9 rfl (a0p rfl rfl) ?_
   refine JH.p 10 rfl (a0p rfl rfl) ?_
   refine y1 11 ?_
   refine ya rfl λb22=>?_
   refine y1 12 ?_
   refine yst rfl rfl rfl ?_
   refine jA 13 rfl rfl ?_
   refine yd ?_
   exact zm ⟨_,_,_,_,_,rfl,rfl,zt,zt,h20,zt,zt,h21⟩ x19
  refine ya rfl λb23=>?_
  refine y1 7 ?_
  refine yp rfl rfl (λw hw=>zq13 g.rules g.now ((M.numR line).1.2.1) (ok_ hw) (ok_ hw)) ?_
  intro u24 x24 A25 c25 h25 bl25 bh25 A26 c26 h26 bl26 bh26
  refine jM 8 rfl rfl ?_
  refine JH.p 9 rfl (a0p rfl rfl) ?_
  refine JH.p 10 rfl (a0p rfl rfl) ?_
  refine y1 12 ?_
  refine yst rfl rfl rfl ?_
  refine jA 13 rfl rfl ?_
  refine yd ?_
  exact zm ⟨_,_,_,_,_,rfl,rfl,zt,zt,h25,zt,zt,h26⟩ x24
 rintro _ _ u18 ⟨b13,A11,c11,A12,c12,rfl,rfl,f18_0,f18_1,f18_2,f18_3,f18_4,f18_5⟩ x18
 refine zn ?_
 refine zS<|Qm rfl<|Qm rfl<|zc rfl (λw hw=>zq21 g ((M.numR line).1.2.1) (ok_ hw)) ?_
 intro A29 c29 bl29 bh29 A30 c30 bl30 bh30 A31 c31 bl31 bh31 A32 c32 bl32 bh32 A33 c33 bl33 bh33
 refine Qm rfl<|Qx rfl rfl<|Qx rfl rfl<|za zeh λb34=>zw 0 rfl rfl rfl ?_
 refine Qa rfl<|zJ<|zS<|Qm rfl<|Qd rfl rfl<|JL.nil ?_
 refine zi (λh35 h35'=>?_) λh35 h35'=>?_
 ·have hE:=M.nextR_5 (g:=g) c1 c2 (by simpa using h35)
  have hq0:0=(((M.nextR g (M.numR line)).1).rules).pits:=rp_ hE
  have hq1:0=(((M.nextR g (M.numR line)).1).rules).seeds:=rp_ hE
  have hq2:false=(((M.nextR g (M.numR line)).1).rules).stores:=rp_ hE
  have hq3:false=(((M.nextR g (M.numR line)).1).rules).skip:=rp_ hE
  have hq4:false=(((M.nextR g (M.numR line)).1).rules).relay:=rp_ hE
  have hq5:false=(((M.nextR g (M.numR line)).1).rules).feed:=rp_ hE
  have hq6:false=(((M.nextR g (M.numR line)).1).rules).again:=rp_ hE
  have hq7:0=(((M.nextR g (M.numR line)).1).rules).capture:=rp_ hE
  have hq8:0=(((M.nextR g (M.numR line)).1).rules).slam:=rp_ hE
  have hq9:[]=(((M.nextR g (M.numR line)).1).start).pits:=rp_ hE
  have hq10:[]=(((M.nextR g (M.numR line)).1).start).stores:=rp_ hE
  have hq11:0=(((M.nextR g (M.numR line)).1).start).player:=rp_ hE
  have hq12:[]=((M.nextR g (M.numR line)).1).moves:=rp_ hE
  have hq13:[]=(((M.nextR g (M.numR line)).1).now).pits:=rp_ hE
  have hq14:[]=(((M.nextR g (M.numR line)).1).now).stores:=rp_ hE
  have hq15:0=(((M.nextR g (M.numR line)).1).now).player:=rp_ hE
  have hq16:0=((M.nextR g (M.numR line)).1).resigned:=rp_ hE
  have hq17:5=(M.nextR g (M.numR line)).2:=rp_ hE
  refine zS<|Qb ?_
  refine zw 7 rfl rfl rfl ?_
  refine Qa rfl<|JL.nil ?_
  exact zro x18
 have c3:(M.play g (M.numR line).1.2.1).2=0:=by simpa using h35
 refine Js.skip<|Js.seq<|zS<|Qf fh rfl<|Q0 6 rfl rfl rfl<|Qm rfl<|Qd rfl rfl<|JL.nil ?_
 refine zi (λh36 h36'=>?_) λh36 h36'=>?_
 ·have hE:=M.b7a (g:=g) c1 c2 c3 (by simpa using h36)
  have hq0:0=(((M.nextR g (M.numR line)).1).rules).pits:=rp_ hE
  have hq1:0=(((M.nextR g (M.numR line)).1).rules).seeds:=rp_ hE
  have hq2:false=(((M.nextR g (M.numR line)).1).rules).stores:=rp_ hE
  have hq3:false=(((M.nextR g (M.numR line)).1).rules).skip:=rp_ hE
  have hq4:false=(((M.nextR g (M.numR line)).1).rules).relay:=rp_ hE
  have hq5:false=(((M.nextR g (M.numR line)).1).rules).feed:=rp_ hE
  have hq6:false=(((M.nextR g (M.numR line)).1).rules).again:=rp_ hE
  have hq7:0=(((M.nextR g (M.numR line)).1).rules).capture:=rp_ hE
  have hq8:0=(((M.nextR g (M.numR line)).1).rules).slam:=rp_ hE
  have hq9:[]=(((M.nextR g (M.numR line)).1).start).pits:=rp_ hE
  have hq10:[]=(((M.nextR g (M.numR line)).1).start).stores:=rp_ hE
  have hq11:0=(((M.nextR g (M.numR line)).1).start).player:=rp_ hE
  have hq12:[]=((M.nextR g (M.numR line)).1).moves:=rp_ hE
  have hq13:[]=(((M.nextR g (M.numR line)).1).now).pits:=rp_ hE
  have hq14:[]=(((M.nextR g (M.numR line)).1).now).stores:=rp_ hE
  have hq15:0=(((M.nextR g (M.numR line)).1).now).player:=rp_ hE
  have hq16:0=((M.nextR g (M.numR line)).1).resigned:=rp_ hE
  have hq17:6=(M.nextR g (M.numR line)).2:=rp_ hE
  refine zS<|Qb ?_
  refine zw 7 rfl rfl rfl ?_
  refine Qa rfl<|JL.nil ?_
  exact zro x18
 have hE:=M.b6k (g:=g) c1 c2 c3 (by simpa using h36)
 have hq0:((((M.play g ((M.numR line).1.2.1)).1).rules).pits)=(((M.nextR g (M.numR line)).1).rules).pits:=rp_ hE
 have hq1:((((M.play g ((M.numR line).1.2.1)).1).rules).seeds)=(((M.nextR g (M.numR line)).1).rules).seeds:=rp_ hE
 have hq2:((((M.play g ((M.numR line).1.2.1)).1).rules).stores)=(((M.nextR g (M.numR line)).1).rules).stores:=rp_ hE
 have hq3:((((M.play g ((M.numR line).1.2.1)).1).rules).skip)=(((M.nextR g (M.numR line)).1).rules).skip:=rp_ hE
 have hq4:((((M.play g ((M.numR line).1.2.1)).1).rules).relay)=(((M.nextR g (M.numR line)).1).rules).relay:=rp_ hE
 have hq5:((((M.play g ((M.numR line).1.2.1)).1).rules).feed)=(((M.nextR g (M.numR line)).1).rules).feed:=rp_ hE
 have hq6:((((M.play g ((M.numR line).1.2.1)).1).rules).again)=(((M.nextR g (M.numR line)).1).rules).again:=rp_ hE
 have hq7:((((M.play g ((M.numR line).1.2.1)).1).rules).capture)=(((M.nextR g (M.numR line)).1).rules).capture:=rp_ hE
 have hq8:((((M.play g ((M.numR line).1.2.1)).1).rules).slam)=(((M.nextR g (M.numR line)).1).rules).slam:=rp_ hE
 have hq9:((((M.play g ((M.numR line).1.2.1)).1).start).pits)=(((M.nextR g (M.numR line)).1).start).pits:=rp_ hE
 have hq10:((((M.play g ((M.numR line).1.2.1)).1).start).stores)=(((M.nextR g (M.numR line)).1).start).stores:=rp_ hE
 have hq11:((((M.play g ((M.numR line).1.2.1)).1).start).player)=(((M.nextR g (M.numR line)).1).start).player:=rp_ hE
 have hq12:(((M.play g ((M.numR line).1.2.1)).1).moves)=((M.nextR g (M.numR line)).1).moves:=rp_ hE
 have hq13:((((M.play g ((M.numR line).1.2.1)).1).now).pits)=(((M.nextR g (M.numR line)).1).now).pits:=rp_ hE
 have hq14:((((M.play g ((M.numR line).1.2.1)).1).now).stores)=(((M.nextR g (M.numR line)).1).now).stores:=rp_ hE
 have hq15:((((M.play g ((M.numR line).1.2.1)).1).now).player)=(((M.nextR g (M.numR line)).1).now).player:=rp_ hE
 have hq16:(((M.play g ((M.numR line).1.2.1)).1).resigned)=((M.nextR g (M.numR line)).1).resigned:=rp_ hE
 have hq17:0=(M.nextR g (M.numR line)).2:=rp_ hE
 refine Js.skip<|zS<|Q9 0 rfl rfl ?_
 refine zw 7 rfl rfl rfl ?_
 refine Qa rfl<|JL.nil ?_
 exact zro x18
theorem zq65(lines:List (List UInt8)){v_lines:Value}(whole:Bool){w:World}(h_lines:(Ty.strs 9 lines).ok w v_lines)(r0:2<=lines.length:=by exact om_)(r1:∀ x∈lines,x.length<=90000:=by exact om_):Ret Tryz.prog 116 [v_lines,.bool whole] w (Ty.tup [Ty.agg (cGame ((M.headS (M.ln lines 0) (M.ln lines 1) (decide (lines.length=2) && !whole)).1)),Ty.int ((M.headS (M.ln lines 0) (M.ln lines 1) (decide (lines.length=2) && !whole)).2.1),Ty.int ((M.headS (M.ln lines 0) (M.ln lines 1) (decide (lines.length=2) && !whole)).2.2)]):=by
 revert v_lines;apply opn
 intro A1 c1 h1 bl1 bh1
 have h_lines:=h1
 refine enter @Tryz.func116 @Tryz.ntmps116 rfl rfl ?_
 refine zent ?_
 obtain⟨ye3,hye3⟩:∃ x,lines[0]?=some x:=⟨_,List.getElem?_eq_getElem (by omega)⟩
 have e0:=M.b1e hye3
 have b0:=r1 _ (List.mem_of_getElem? hye3)
 have ba0:=M.b2l ye3 ([114,117,108,101,115]:List UInt8)
 have hy4:=hye3
 obtain⟨b4,o4,he4,hc4⟩:=a0o h1 hy4
 refine zS<|za zeh λb2=>Qa rfl<|Qa rfl<|zN<|Qm rfl<|Qq (a0a el_31 rfl rfl (by omega) (by omega) he4)<|QC hc4 rfl<|zv rfl (λw hw=>zq26 ye3 ([114,117,108,101,115]:List UInt8))<|Qm rfl<|Qx rfl rfl<|Qx rfl rfl<|Qa rfl<|Qa rfl ?_
 refine zN<|Qm rfl<|zp rfl (λw hw=>zq114 ((M.aft ye3 ([114,117,108,101,115]:List UInt8)).1)) ?_
 intro u5 x5
 refine Qm rfl<|Qx rfl rfl<|Qx rfl rfl<|za zeh λb6=>zw 0 rfl rfl rfl ?_
 refine Qa rfl<|zJ<|zS<|Qm rfl<|Qt rfl<|Qm rfl<|zg (Gd.f1 rfl rfl rfl) (λhc=>a0e rfl)<|zg (Gd.f1 rfl rfl rfl) (λhc=>p_not (gh hc rfl))<|Qq (a0j rfl rfl rfl)<|JL.nil ?_
 refine zi (λh7 h7'=>?_) λh7 h7'=>?_
 ·have c0:¬ ((M.aft (M.ln lines 0) M.rulesW).2=true/\(M.readR (M.aft (M.ln lines 0) M.rulesW).1).2=true):=fun ⟨d1,d2⟩=>by have h9:=h7;rw[e0] at d1 d2;simp_all[M.rulesW]
  have hE:=M.b6u (l1:=M.ln lines 1) (tw:=decide (lines.length=2) && !whole) c0
  have hq0:0=(((M.headS (M.ln lines 0) (M.ln lines 1) (decide (lines.length=2) && !whole)).1).rules).pits:=rp_ hE
  have hq1:0=(((M.headS (M.ln lines 0) (M.ln lines 1) (decide (lines.length=2) && !whole)).1).rules).seeds:=rp_ hE
  have hq2:false=(((M.headS (M.ln lines 0) (M.ln lines 1) (decide (lines.length=2) && !whole)).1).rules).stores:=rp_ hE
  have hq3:false=(((M.headS (M.ln lines 0) (M.ln lines 1) (decide (lines.length=2) && !whole)).1).rules).skip:=rp_ hE
  have hq4:false=(((M.headS (M.ln lines 0) (M.ln lines 1) (decide (lines.length=2) && !whole)).1).rules).relay:=rp_ hE
  have hq5:false=(((M.headS (M.ln lines 0) (M.ln lines 1) (decide (lines.length=2) && !whole)).1).rules).feed:=rp_ hE
  have hq6:false=(((M.headS (M.ln lines 0) (M.ln lines 1) (decide (lines.length=2) && !whole)).1).rules).again:=rp_ hE
  have hq7:0=(((M.headS (M.ln lines 0) (M.ln lines 1) (decide (lines.length=2) && !whole)).1).rules).capture:=rp_ hE
  have hq8:0=(((M.headS (M.ln lines 0) (M.ln lines 1) (decide (lines.length=2) && !whole)).1).rules).slam:=rp_ hE
  have hq9:[]=(((M.headS (M.ln lines 0) (M.ln lines 1) (decide (lines.length=2) && !whole)).1).start).pits:=rp_ hE
  have hq10:[]=(((M.headS (M.ln lines 0) (M.ln lines 1) (decide (lines.length=2) && !whole)).1).start).stores:=rp_ hE
  have hq11:0=(((M.headS (M.ln lines 0) (M.ln lines 1) (decide (lines.length=2) && !whole)).1).start).player:=rp_ hE
  have hq12:[]=((M.headS (M.ln lines 0) (M.ln lines 1) (decide (lines.length=2) && !whole)).1).moves:=rp_ hE
  have hq13:[]=(((M.headS (M.ln lines 0) (M.ln lines 1) (decide (lines.length=2) && !whole)).1).now).pits:=rp_ hE
  have hq14:[]=(((M.headS (M.ln lines 0) (M.ln lines 1) (decide (lines.length=2) && !whole)).1).now).stores:=rp_ hE
  have hq15:0=(((M.headS (M.ln lines 0) (M.ln lines 1) (decide (lines.length=2) && !whole)).1).now).player:=rp_ hE
  have hq16:0=((M.headS (M.ln lines 0) (M.ln lines 1) (decide (lines.length=2) && !whole)).1).resigned:=rp_ hE
  have hq17:0=(M.headS (M.ln lines 0) (M.ln lines 1) (decide (lines.length=2) && !whole)).2.1:=rp_ hE
  have hq18:1=(M.headS (M.ln lines 0) (M.ln lines 1) (decide (lines.length=2) && !whole)).2.2:=rp_ hE
  refine zS<|Qb ?_
  refine zw 1 rfl rfl rfl ?_
  refine Qa rfl<|Qa rfl<|JL.nil ?_
  exact zro x5
 have c0:(M.aft (M.ln lines 0) M.rulesW).2=true/\(M.readR (M.aft (M.ln lines 0) M.rulesW).1).2=true:=by have h9:=h7;rw[e0];simpa[M.rulesW] using h9
 refine Js.skip<|Js.seq<|zS<|Qm rfl<|Qz rfl<|Qe rfl rfl<|Qm rfl<|zg (Gd.t1 rfl rfl rfl) (λhc=>a0e rfl)<|zg (Gd.t1 rfl rfl rfl) (λhc=>p_not (gh hc rfl))<|Qq (a0d rfl rfl rfl)<|JL.nil ?_
 refine zi (λh8 h8'=>?_) λh8 h8'=>?_
 ·have hE:=M.headS_7 (l1:=M.ln lines 1) (tw:=decide (lines.length=2) && !whole) c0 (by have h9:=h8;simp at h9 ⊢;first|exact h9|exact⟨by omega,h9.2⟩)
  have hq0:0=(((M.headS (M.ln lines 0) (M.ln lines 1) (decide (lines.length=2) && !whole)).1).rules).pits:=rp_ hE
  have hq1:0=(((M.headS (M.ln lines 0) (M.ln lines 1) (decide (lines.length=2) && !whole)).1).rules).seeds:=rp_ hE
  have hq2:false=(((M.headS (M.ln lines 0) (M.ln lines 1) (decide (lines.length=2) && !whole)).1).rules).stores:=rp_ hE
  have hq3:false=(((M.headS (M.ln lines 0) (M.ln lines 1) (decide (lines.length=2) && !whole)).1).rules).skip:=rp_ hE
  have hq4:false=(((M.headS (M.ln lines 0) (M.ln lines 1) (decide (lines.length=2) && !whole)).1).rules).relay:=rp_ hE
  have hq5:false=(((M.headS (M.ln lines 0) (M.ln lines 1) (decide (lines.length=2) && !whole)).1).rules).feed:=rp_ hE
  have hq6:false=(((M.headS (M.ln lines 0) (M.ln lines 1) (decide (lines.length=2) && !whole)).1).rules).again:=rp_ hE
  have hq7:0=(((M.headS (M.ln lines 0) (M.ln lines 1) (decide (lines.length=2) && !whole)).1).rules).capture:=rp_ hE
  have hq8:0=(((M.headS (M.ln lines 0) (M.ln lines 1) (decide (lines.length=2) && !whole)).1).rules).slam:=rp_ hE
  have hq9:[]=(((M.headS (M.ln lines 0) (M.ln lines 1) (decide (lines.length=2) && !whole)).1).start).pits:=rp_ hE
  have hq10:[]=(((M.headS (M.ln lines 0) (M.ln lines 1) (decide (lines.length=2) && !whole)).1).start).stores:=rp_ hE
  have hq11:0=(((M.headS (M.ln lines 0) (M.ln lines 1) (decide (lines.length=2) && !whole)).1).start).player:=rp_ hE
  have hq12:[]=((M.headS (M.ln lines 0) (M.ln lines 1) (decide (lines.length=2) && !whole)).1).moves:=rp_ hE
  have hq13:[]=(((M.headS (M.ln lines 0) (M.ln lines 1) (decide (lines.length=2) && !whole)).1).now).pits:=rp_ hE
  have hq14:[]=(((M.headS (M.ln lines 0) (M.ln lines 1) (decide (lines.length=2) && !whole)).1).now).stores:=rp_ hE
  have hq15:0=(((M.headS (M.ln lines 0) (M.ln lines 1) (decide (lines.length=2) && !whole)).1).now).player:=rp_ hE
  have hq16:0=((M.headS (M.ln lines 0) (M.ln lines 1) (decide (lines.length=2) && !whole)).1).resigned:=rp_ hE
  have hq17:0=(M.headS (M.ln lines 0) (M.ln lines 1) (decide (lines.length=2) && !whole)).2.1:=rp_ hE
  have hq18:7=(M.headS (M.ln lines 0) (M.ln lines 1) (decide (lines.length=2) && !whole)).2.2:=rp_ hE
  refine zS<|Qb ?_
  refine zw 1 rfl rfl rfl ?_
  refine Qa rfl<|Qa rfl<|JL.nil ?_
  exact zro x5
 have ct:¬ (decide (lines.length=2) && !whole)=true:=λh7=>by have h9:=h8;have e9:decide ((lines.length:Int)=2)=decide (lines.length=2):=(by simp only[decide_eq_decide];omega);rw[e9,h7] at h9;exact absurd h9 (by decide)
 obtain⟨ye9,hye9⟩:∃ x,lines[1]?=some x:=⟨_,List.getElem?_eq_getElem (by omega)⟩
 have e1:=M.b1e hye9
 have b1:=r1 _ (List.mem_of_getElem? hye9)
 have ba1:=M.b2l ye9 ([115,116,97,114,116]:List UInt8)
 obtain⟨q1,q2⟩:=M.b8r (M.readR (M.aft ye3 ([114,117,108,101,115]:List UInt8)).1).1 (M.aft ye9 ([115,116,97,114,116]:List UInt8)).1
 have hy10:=hye9
 obtain⟨b10,o10,he10,hc10⟩:=a0o (Ty.mono _ h1 x5.vis) hy10
 refine Js.skip<|zS<|Qm rfl<|Qq (a0a el_31 rfl rfl (by omega) (by omega) he10)<|QC hc10 rfl<|zv rfl (λw hw=>zq26 ye9 ([115,116,97,114,116]:List UInt8))<|Qm rfl<|Qx rfl rfl<|Qx rfl rfl<|Qa rfl<|Qa rfl<|zN<|Q9 0 rfl rfl ?_
 refine Qm rfl<|zc rfl (λw hw=>zq117 ((M.readR ((M.aft ye3 ([114,117,108,101,115]:List UInt8)).1)).1) ((M.aft ye9 ([115,116,97,114,116]:List UInt8)).1) (ok_ hw)) ?_
 intro A13 c13 bl13 bh13 A14 c14 bl14 bh14
 refine Qm rfl<|Qx rfl rfl<|Qx rfl rfl<|za zeh λb15=>zw 0 rfl rfl rfl ?_
 refine Qa rfl<|zJ<|zS<|Qm rfl<|Qt rfl<|Qm rfl<|zg (Gd.f1 rfl rfl rfl) (λhc=>a0e rfl)<|zg (Gd.f1 rfl rfl rfl) (λhc=>p_not (gh hc rfl))<|Qq (a0j rfl rfl rfl)<|JL.nil ?_
 refine zi (λh16 h16'=>?_) λh16 h16'=>?_
 ·have hE:=M.headS_2 (l1:=M.ln lines 1) c0 ct (fun ⟨d1,d2⟩=>by have h9:=h16;rw[e0,e1] at d2;rw[e1] at d1;simp_all[M.startW,M.rulesW])
  have hq0:0=(((M.headS (M.ln lines 0) (M.ln lines 1) (decide (lines.length=2) && !whole)).1).rules).pits:=rp_ hE
  have hq1:0=(((M.headS (M.ln lines 0) (M.ln lines 1) (decide (lines.length=2) && !whole)).1).rules).seeds:=rp_ hE
  have hq2:false=(((M.headS (M.ln lines 0) (M.ln lines 1) (decide (lines.length=2) && !whole)).1).rules).stores:=rp_ hE
  have hq3:false=(((M.headS (M.ln lines 0) (M.ln lines 1) (decide (lines.length=2) && !whole)).1).rules).skip:=rp_ hE
  have hq4:false=(((M.headS (M.ln lines 0) (M.ln lines 1) (decide (lines.length=2) && !whole)).1).rules).relay:=rp_ hE
  have hq5:false=(((M.headS (M.ln lines 0) (M.ln lines 1) (decide (lines.length=2) && !whole)).1).rules).feed:=rp_ hE
  have hq6:false=(((M.headS (M.ln lines 0) (M.ln lines 1) (decide (lines.length=2) && !whole)).1).rules).again:=rp_ hE
  have hq7:0=(((M.headS (M.ln lines 0) (M.ln lines 1) (decide (lines.length=2) && !whole)).1).rules).capture:=rp_ hE
  have hq8:0=(((M.headS (M.ln lines 0) (M.ln lines 1) (decide (lines.length=2) && !whole)).1).rules).slam:=rp_ hE
  have hq9:[]=(((M.headS (M.ln lines 0) (M.ln lines 1) (decide (lines.length=2) && !whole)).1).start).pits:=rp_ hE
  have hq10:[]=(((M.headS (M.ln lines 0) (M.ln lines 1) (decide (lines.length=2) && !whole)).1).start).stores:=rp_ hE
  have hq11:0=(((M.headS (M.ln lines 0) (M.ln lines 1) (decide (lines.length=2) && !whole)).1).start).player:=rp_ hE
  have hq12:[]=((M.headS (M.ln lines 0) (M.ln lines 1) (decide (lines.length=2) && !whole)).1).moves:=rp_ hE
  have hq13:[]=(((M.headS (M.ln lines 0) (M.ln lines 1) (decide (lines.length=2) && !whole)).1).now).pits:=rp_ hE
  have hq14:[]=(((M.headS (M.ln lines 0) (M.ln lines 1) (decide (lines.length=2) && !whole)).1).now).stores:=rp_ hE
  have hq15:0=(((M.headS (M.ln lines 0) (M.ln lines 1) (decide (lines.length=2) && !whole)).1).now).player:=rp_ hE
  have hq16:0=((M.headS (M.ln lines 0) (M.ln lines 1) (decide (lines.length=2) && !whole)).1).resigned:=rp_ hE
  have hq17:1=(M.headS (M.ln lines 0) (M.ln lines 1) (decide (lines.length=2) && !whole)).2.1:=rp_ hE
  have hq18:2=(M.headS (M.ln lines 0) (M.ln lines 1) (decide (lines.length=2) && !whole)).2.2:=rp_ hE
  refine zS<|Qb ?_
  refine zw 4 rfl rfl rfl ?_
  refine Qa rfl<|Qa rfl<|JL.nil ?_
  exact zro x5
 have hE9:=M.headS_0 (l1:=M.ln lines 1) c0 ct (by have h9:=h16;rw[e0,e1];simpa[M.startW,M.rulesW] using h9)
 have hE:(M.headS (M.ln lines 0) (M.ln lines 1) (decide (lines.length=2) && !whole))=(M.freshG (M.readR (M.aft ye3 ([114,117,108,101,115]:List UInt8)).1).1 (M.readP (M.readR (M.aft ye3 ([114,117,108,101,115]:List UInt8)).1).1 (M.aft ye9 ([115,116,97,114,116]:List UInt8)).1).1,0,0):=hE9.trans (by rw[e0,e1];rfl)
 refine Js.skip<|zS<|zc rfl (λw hw=>zq14 ((M.readR ((M.aft ye3 ([114,117,108,101,115]:List UInt8)).1)).1) ((M.readP ((M.readR ((M.aft ye3 ([114,117,108,101,115]:List UInt8)).1)).1) ((M.aft ye9 ([115,116,97,114,116]:List UInt8)).1)).1) (ok_ hw) (ok_ hw)) ?_
 intro A18 c18 bl18 bh18 A19 c19 bl19 bh19 A20 c20 bl20 bh20 A21 c21 bl21 bh21 A22 c22 bl22 bh22
 have hq0:(((M.readR ((M.aft ye3 ([114,117,108,101,115]:List UInt8)).1)).1).pits)=(((M.headS (M.ln lines 0) (M.ln lines 1) (decide (lines.length=2) && !whole)).1).rules).pits:=rp_ hE
 have hq1:(((M.readR ((M.aft ye3 ([114,117,108,101,115]:List UInt8)).1)).1).seeds)=(((M.headS (M.ln lines 0) (M.ln lines 1) (decide (lines.length=2) && !whole)).1).rules).seeds:=rp_ hE
 have hq2:(((M.readR ((M.aft ye3 ([114,117,108,101,115]:List UInt8)).1)).1).stores)=(((M.headS (M.ln lines 0) (M.ln lines 1) (decide (lines.length=2) && !whole)).1).rules).stores:=rp_ hE
 have hq3:(((M.readR ((M.aft ye3 ([114,117,108,101,115]:List UInt8)).1)).1).skip)=(((M.headS (M.ln lines 0) (M.ln lines 1) (decide (lines.length=2) && !whole)).1).rules).skip:=rp_ hE
 have hq4:(((M.readR ((M.aft ye3 ([114,117,108,101,115]:List UInt8)).1)).1).relay)=(((M.headS (M.ln lines 0) (M.ln lines 1) (decide (lines.length=2) && !whole)).1).rules).relay:=rp_ hE
 have hq5:(((M.readR ((M.aft ye3 ([114,117,108,101,115]:List UInt8)).1)).1).feed)=(((M.headS (M.ln lines 0) (M.ln lines 1) (decide (lines.length=2) && !whole)).1).rules).feed:=rp_ hE
 have hq6:(((M.readR ((M.aft ye3 ([114,117,108,101,115]:List UInt8)).1)).1).again)=(((M.headS (M.ln lines 0) (M.ln lines 1) (decide (lines.length=2) && !whole)).1).rules).again:=rp_ hE
 have hq7:(((M.readR ((M.aft ye3 ([114,117,108,101,115]:List UInt8)).1)).1).capture)=(((M.headS (M.ln lines 0) (M.ln lines 1) (decide (lines.length=2) && !whole)).1).rules).capture:=rp_ hE
 have hq8:(((M.readR ((M.aft ye3 ([114,117,108,101,115]:List UInt8)).1)).1).slam)=(((M.headS (M.ln lines 0) (M.ln lines 1) (decide (lines.length=2) && !whole)).1).rules).slam:=rp_ hE
 have hq9:(((M.readP ((M.readR ((M.aft ye3 ([114,117,108,101,115]:List UInt8)).1)).1) ((M.aft ye9 ([115,116,97,114,116]:List UInt8)).1)).1).pits)=(((M.headS (M.ln lines 0) (M.ln lines 1) (decide (lines.length=2) && !whole)).1).start).pits:=rp_ hE
 have hq10:(((M.readP ((M.readR ((M.aft ye3 ([114,117,108,101,115]:List UInt8)).1)).1) ((M.aft ye9 ([115,116,97,114,116]:List UInt8)).1)).1).stores)=(((M.headS (M.ln lines 0) (M.ln lines 1) (decide (lines.length=2) && !whole)).1).start).stores:=rp_ hE
 have hq11:(((M.readP ((M.readR ((M.aft ye3 ([114,117,108,101,115]:List UInt8)).1)).1) ((M.aft ye9 ([115,116,97,114,116]:List UInt8)).1)).1).player)=(((M.headS (M.ln lines 0) (M.ln lines 1) (decide (lines.length=2) && !whole)).1).start).player:=rp_ hE
 have hq12:[]=((M.headS (M.ln lines 0) (M.ln lines 1) (decide (lines.length=2) && !whole)).1).moves:=rp_ hE
 have hq13:(((M.readP ((M.readR ((M.aft ye3 ([114,117,108,101,115]:List UInt8)).1)).1) ((M.aft ye9 ([115,116,97,114,116]:List UInt8)).1)).1).pits)=(((M.headS (M.ln lines 0) (M.ln lines 1) (decide (lines.length=2) && !whole)).1).now).pits:=rp_ hE
 have hq14:(((M.readP ((M.readR ((M.aft ye3 ([114,117,108,101,115]:List UInt8)).1)).1) ((M.aft ye9 ([115,116,97,114,116]:List UInt8)).1)).1).stores)=(((M.headS (M.ln lines 0) (M.ln lines 1) (decide (lines.length=2) && !whole)).1).now).stores:=rp_ hE
 have hq15:(((M.readP ((M.readR ((M.aft ye3 ([114,117,108,101,115]:List UInt8)).1)).1) ((M.aft ye9 ([115,116,97,114,116]:List UInt8)).1)).1).player)=(((M.headS (M.ln lines 0) (M.ln lines 1) (decide (lines.length=2) && !whole)).1).now).player:=rp_ hE
 have hq16:(-1)=((M.headS (M.ln lines 0) (M.ln lines 1) (decide (lines.length=2) && !whole)).1).resigned:=rp_ hE
 have hq17:0=(M.headS (M.ln lines 0) (M.ln lines 1) (decide (lines.length=2) && !whole)).2.1:=rp_ hE
 have hq18:0=(M.headS (M.ln lines 0) (M.ln lines 1) (decide (lines.length=2) && !whole)).2.2:=rp_ hE
 refine zw 9 rfl rfl rfl ?_
 refine Qa rfl<|Qa rfl<|JL.nil ?_
 exact zro x5
theorem zq66(s:List UInt8){w:World}(r0:s.length<=90000:=by exact om_):Ret Tryz.prog 60 [.string (sB s)] w (Ty.tup [Ty.agg (cGame ((M.chkW s).1)),Ty.int (M.atS s),Ty.int ((M.chkW s).2.2)]):=by
 refine enter @Tryz.func60 @Tryz.ntmps60 rfl rfl ?_
 refine zent ?_
 refine zS<|za zeh λb1=>Qa rfl<|Qa rfl<|zN<|Qm rfl<|zcs rfl (λw hw=>zq12 s 10) ?_
 intro A2 c2 bl2 bh2
 have hp:0 < (M.split (M.u8 10) s).length:=List.length_pos_iff.2 (M.a4q 10 s)
 have hpl:(M.split (M.u8 10) s).length<=s.length + 1:=M.a1p 10 s
 obtain⟨ye3,hye3⟩:∃ x,(M.split (M.u8 10) s)[((((M.split (M.u8 10) s).length):Int) - 1).toNat]?=some x:=⟨_,List.getElem?_eq_getElem (by omega)⟩
 have hwh:M.whole s=decide (ye3=[]):=M.c0m (by rw[show(M.split 10 s).length - 1=(((M.split (M.u8 10) s).length:Int) - 1).toNat by have h9:(M.split (M.u8 10) s).length=(M.split 10 s).length:=rfl;omega];exact hye3)
 refine Qa rfl<|zN<|Qm rfl<|Qz rfl<|Qs rfl rfl<|Qa rfl<|zN<|Qm rfl<|Qm rfl ?_
 refine JL.fact (a0s (i:=0) rfl (by omega)) (λhf5=>?_)
 obtain⟨b5,rfl⟩:=hf5
 have hye3:(M.split (M.u8 10) s:List (List UInt8))[((((M.split (M.u8 10) s).length):Int) - 1).toNat]?=some ye3:=hye3
 refine Qq (a0a el_31 rfl rfl (by omega) (by omega) rfl)<|Qw (a0c ty_9.h rfl (Mem.row (i:=0) rfl (txs_get' (xs:=(M.split (M.u8 10) s)) hye3)))<|Qq (a0w und_9 rfl rfl)<|Qa rfl<|zJ<|zS<|Qm rfl<|Qt rfl<|Qm rfl<|zg (Gd.f1 rfl rfl rfl) (λhc=>a0e rfl)<|zg (Gd.f1 rfl rfl rfl) (λhc=>p_eql (gh hc rfl) rfl)<|Qq (a0j rfl rfl rfl)<|JL.nil ?_
 refine zi (λh7 h7'=>?_) λh7 h7'=>?_
 ·have hrs:M.recS s=(M.split (M.u8 10) s)++[[]]:=M.recS_n (fun ⟨d1,d2⟩=>by have h9:=h7;rw[hwh] at d1;have d3:¬ (M.split (M.u8 10) s).length=1:=d2;simp_all;omega)
  refine zS<|Qm rfl<|zbs λb8=>?_
  refine JL.e (a0g (i:=1) (n':=((M.split (M.u8 10) s)++([([]:List UInt8)])).length) (vs':=txs_ ((M.split (M.u8 10) s)++([([]:List UInt8)]))) el_31 rfl rfl rfl rfl (a0k (i:=0) a9z rfl rfl) (by omega) (by omega) ln2_ (by first|rfl|(simp[txs_];done))) ?_
  rintro v10 _ _ ⟨⟨g11,rfl⟩,rfl⟩ _
  refine JL.fact (row_form' (i:=1) rfl) (λhf12=>?_)
  obtain⟨A12,c12,rfl,bl12,bh12⟩:=hf12
  refine znl ?_
  have hr2:2<=(((M.split (M.u8 10) s)++([([]:List UInt8)]))).length:=by rw[<- hrs];exact M.b9o s
  have hmem:∀ x∈(((M.split (M.u8 10) s)++([([]:List UInt8)]))),x.length<=90000:=λx hx=>Nat.le_trans (M.b8j (by rw[hrs];exact hx)) (by omega)
  obtain⟨y0_,hy0_⟩:∃ x,(((M.split (M.u8 10) s)++([([]:List UInt8)])))[0]?=some x:=⟨_,List.getElem?_eq_getElem (by omega)⟩
  obtain⟨y1_,hy1_⟩:∃ x,(((M.split (M.u8 10) s)++([([]:List UInt8)])))[1]?=some x:=⟨_,List.getElem?_eq_getElem (by omega)⟩
  obtain⟨H1_,H2_⟩:=M.c0c (s:=s) (x:=M.headS (M.ln ((M.split (M.u8 10) s)++([([]:List UInt8)])) 0) (M.ln ((M.split (M.u8 10) s)++([([]:List UInt8)])) 1) (decide ((((M.split (M.u8 10) s)++([([]:List UInt8)]))).length=2) && !(decide (ye3=([]:List UInt8))))) (l0:=y0_) (l1:=y1_) (by rw[hrs];exact hy0_) (by rw[hrs];exact hy1_) (by rw[hrs,hwh,M.b1e hy0_,M.b1e hy1_])
  refine Qa rfl<|zG<|Qm rfl<|Qp rfl rfl<|Qa rfl<|zN<|Qm rfl<|Qm rfl<|zc rfl (λw hw=>zq65 ((M.split (M.u8 10) s)++([([]:List UInt8)])) (decide (ye3=([]:List UInt8))) (a4g (xs:=((M.split (M.u8 10) s)++([([]:List UInt8)]))) (hw.pr (i:=1) rfl))) ?_
  intro A15 c15 bl15 bh15 A16 c16 bl16 bh16 A17 c17 bl17 bh17 A18 c18 bl18 bh18 A19 c19 bl19 bh19
  refine Qm rfl<|Qx rfl rfl<|Qx rfl rfl<|Qx rfl rfl<|za zeh λb20=>zw 0 rfl rfl rfl ?_
  refine Qa rfl<|Qa rfl<|zJ<|zS<|Qm rfl<|Qd rfl rfl<|JL.nil ?_
  refine zi (λh21 h21'=>?_) λh21 h21'=>?_
  ·have n0:=h21
   have hE:=H1_ (by simpa using n0)
   have hA:=M.atS_b hE (by simpa using n0)
   have hq0:0=(((M.chkW s).1).rules).pits:=by first|(rw[hE];done)|(rw[hE];rfl)|(rw[hA];done)
   have hq1:0=(((M.chkW s).1).rules).seeds:=by first|(rw[hE];done)|(rw[hE];rfl)|(rw[hA];done)
   have hq2:false=(((M.chkW s).1).rules).stores:=by first|(rw[hE];done)|(rw[hE];rfl)|(rw[hA];done)
   have hq3:false=(((M.chkW s).1).rules).skip:=by first|(rw[hE];done)|(rw[hE];rfl)|(rw[hA];done)
   have hq4:false=(((M.chkW s).1).rules).relay:=by first|(rw[hE];done)|(rw[hE];rfl)|(rw[hA];done)
   have hq5:false=(((M.chkW s).1).rules).feed:=by first|(rw[hE];done)|(rw[hE];rfl)|(rw[hA];done)
   have hq6:false=(((M.chkW s).1).rules).again:=by first|(rw[hE];done)|(rw[hE];rfl)|(rw[hA];done)
   have hq7:0=(((M.chkW s).1).rules).capture:=by first|(rw[hE];done)|(rw[hE];rfl)|(rw[hA];done)
   have hq8:0=(((M.chkW s).1).rules).slam:=by first|(rw[hE];done)|(rw[hE];rfl)|(rw[hA];done)
   have hq9:[]=(((M.chkW s).1).start).pits:=by first|(rw[hE];done)|(rw[hE];rfl)|(rw[hA];done)
   have hq10:[]=(((M.chkW s).1).start).stores:=by first|(rw[hE];done)|(rw[hE];rfl)|(rw[hA];done)
   have hq11:0=(((M.chkW s).1).start).player:=by first|(rw[hE];done)|(rw[hE];rfl)|(rw[hA];done)
   have hq12:[]=((M.chkW s).1).moves:=by first|(rw[hE];done)|(rw[hE];rfl)|(rw[hA];done)
   have hq13:[]=(((M.chkW s).1).now).pits:=by first|(rw[hE];done)|(rw[hE];rfl)|(rw[hA];done)
   have hq14:[]=(((M.chkW s).1).now).stores:=by first|(rw[hE];done)|(rw[hE];rfl)|(rw[hA];done)
   have hq15:0=(((M.chkW s).1).now).player:=by first|(rw[hE];done)|(rw[hE];rfl)|(rw[hA];done)
   have hq16:0=((M.chkW s).1).resigned:=by first|(rw[hE];done)|(rw[hE];rfl)|(rw[hA];done)
   have hq17:((M.headS (M.ln ((M.split (M.u8 10) s)++([([]:List UInt8)])) 0) (M.ln ((M.split (M.u8 10) s)++([([]:List UInt8)])) 1) (decide (((M.split (M.u8 10) s)++([([]:List UInt8)])).length=2) && !(decide (ye3=([]:List UInt8))))).2.1)=M.atS s:=by first|(rw[hE];done)|(rw[hE];rfl)|(rw[hA];done)
   have hq18:((M.headS (M.ln ((M.split (M.u8 10) s)++([([]:List UInt8)])) 0) (M.ln ((M.split (M.u8 10) s)++([([]:List UInt8)])) 1) (decide (((M.split (M.u8 10) s)++([([]:List UInt8)])).length=2) && !(decide (ye3=([]:List UInt8))))).2.2)=(M.chkW s).2.2:=by first|(rw[hE];done)|(rw[hE];rfl)|(rw[hA];done)
   refine zS<|Qb ?_
   refine Qm rfl<|Qm rfl<|zw 8 rfl rfl rfl ?_
   refine Qa rfl<|Qa rfl<|JL.nil ?_
   exact zro (Up.refl _ _)
  have hS0:=H2_ (by simpa using h21)
  refine Js.skip<|Js.seq<|zS<|Qa rfl<|JL.nil<|Js.block ?_
  refine zl [2,5,6,7,8] (λF U l os u m=>∃ (k:Nat) (gk:M.Gam) (A22_8_9:Option Addr) (c22_8_9:Nat) (g22_8_9:List Nat) (A22_8_10:Option Addr) (c22_8_10:Nat) (g22_8_10:List Nat) (A22_8_12:Option Addr) (c22_8_12:Nat) (g22_8_12:List Nat) (A22_8_13:Option Addr) (c22_8_13:Nat) (g22_8_13:List Nat) (A22_8_14:Option Addr) (c22_8_14:Nat) (g22_8_14:List Nat),l=F [(11,.int .i64 (k:Int))]/\os=U [some (boxO b20 [.int .i64 gk.rules.pits,.int .i64 gk.rules.seeds,.bool gk.rules.stores,.bool gk.rules.skip,.bool gk.rules.relay,.bool gk.rules.feed,.bool gk.rules.again,.int .i64 gk.rules.capture,.int .i64 gk.rules.slam,.slice A22_8_9 gk.start.pits.length c22_8_9,.slice A22_8_10 gk.start.stores.length c22_8_10,.int .i64 gk.start.player,.slice A22_8_12 gk.moves.length c22_8_12,.slice A22_8_13 gk.now.pits.length c22_8_13,.slice A22_8_14 gk.now.stores.length c22_8_14,.int .i64 gk.now.player,.int .i64 gk.resigned] 53),some (rowO 2 1 (.slice A22_8_14 gk.now.stores.length c22_8_14) gk.now.stores.length (ints_ gk.now.stores) g22_8_14),some (rowO 2 1 (.slice A22_8_13 gk.now.pits.length c22_8_13) gk.now.pits.length (ints_ gk.now.pits) g22_8_13),some (rowO 2 1 (.slice A22_8_12 gk.moves.length c22_8_12) gk.moves.length (ints_ gk.moves) g22_8_12),some (rowO 2 1 (.slice A22_8_10 gk.start.stores.length c22_8_10) gk.start.stores.length (ints_ gk.start.stores) g22_8_10),some (rowO 2 1 (.slice A22_8_9 gk.start.pits.length c22_8_9) gk.start.pits.length (ints_ gk.start.pits) g22_8_9)]/\(M.SpI s k gk)/\(gk.start.pits.length<=c22_8_9)/\(c22_8_9<=9223372036854775807)/\(gk.start.stores.length<=c22_8_10)/\(c22_8_10<=9223372036854775807)/\(gk.moves.length<=c22_8_12)/\(c22_8_12<=9223372036854775807)/\(gk.now.pits.length<=c22_8_13)/\(c22_8_13<=9223372036854775807)/\(gk.now.stores.length<=c22_8_14)/\(c22_8_14<=9223372036854775807)/\m=(M.recL s).length - k) ⟨2,(M.headS (M.ln ((M.split (M.u8 10) s)++([([]:List UInt8)])) 0) (M.ln ((M.split (M.u8 10) s)++([([]:List UInt8)])) 1) (decide ((((M.split (M.u8 10) s)++([([]:List UInt8)]))).length=2) && !(decide (ye3=([]:List UInt8))))).1,_,_,_,_,_,_,_,_,_,_,_,_,_,_,_,rfl,rfl,by exact hS0,zu,zu,zu,zu,zu,zu,zu,zu,zu,zu,rfl⟩ ?_
  rintro _ _ u22 _ ⟨k,gk,A22_8_9,c22_8_9,g22_8_9,A22_8_10,c22_8_10,g22_8_10,A22_8_12,c22_8_12,g22_8_12,A22_8_13,c22_8_13,g22_8_13,A22_8_14,c22_8_14,g22_8_14,rfl,rfl,hS,f22_1,f22_2,f22_3,f22_4,f22_5,f22_6,f22_7,f22_8,f22_9,f22_10,rfl⟩ x22
  refine zn ?_
  obtain⟨gb1,gb2,gb3,gb4,gb5⟩:=M.b4l hS.ok
  have hkn:=hS.kn
  have hll:(M.recS s).length=(M.recL s).length + 1:=by rw[hS.l];simp
  refine Js.seq<|zS<|Qm rfl<|Qm rfl<|Ql rfl rfl<|JL.nil ?_
  refine zi (λh23 h23'=>?_) λh23 h23'=>?_
  ·have hkl:k < (M.recL s).length:=by have h9:=h23';rw[hrs] at hll;(try simp at hll);omega
   have hkc:k < (M.recS s).length:=by omega
   rw[hrs] at hkc
   obtain⟨ye24,hye24⟩:∃ x,((M.split (M.u8 10) s)++([([]:List UInt8)]))[k]?=some x:=⟨_,List.getElem?_eq_getElem (by omega)⟩
   have hyr:(M.recS s)[k]?=some ye24:=by rw[hrs];exact hye24
   have hyl:=hmem _ (List.mem_of_getElem? hye24)
   have hal:=M.b2l ye24 ([114,101,115,105,103,110,115]:List UInt8)
   refine Js.skip<|Js.seq<|Js.block<|zS<|Qm rfl<|Qm rfl ?_
   refine JL.fact (a0s (i:=7) rfl (by omega)) (λhf26=>?_)
   obtain⟨b26,rfl⟩:=hf26
   have hye24:((M.split (M.u8 10) s)++([([]:List UInt8)]):List (List UInt8))[k]?=some ye24:=hye24
   refine Qq (a0a el_31 rfl rfl (by omega) (by omega) rfl)<|Qw (a0c ty_9.h rfl (Mem.row (i:=7) rfl (txs_get' (xs:=((M.split (M.u8 10) s)++([([]:List UInt8)]))) hye24)))<|zv rfl (λw hw=>zq26 ye24 ([114,101,115,105,103,110,115]:List UInt8))<|Qm rfl<|Qx rfl rfl<|Qx rfl rfl<|Qa rfl<|Qa rfl<|zJ<|Js.block<|zS<|Qf fh rfl<|Q0 0 rfl rfl rfl<|Qh rfl rfl ?_
   refine Qa rfl<|JL.nil ?_
   refine zi (λh28 h28'=>?_) λh28 h28'=>?_
   ·have hE:=hS.bad hkl hyr (M.b2p (by simpa using h28)) (show ¬ (7:Int)=0 by decide)
    have hA:=M.atS_b hE (show ¬ (7:Int)=0 by decide)
    have hq0:0=(((M.chkW s).1).rules).pits:=by first|(rw[hE];done)|(rw[hE];rfl)|(rw[hA];done)
    have hq1:0=(((M.chkW s).1).rules).seeds:=by first|(rw[hE];done)|(rw[hE];rfl)|(rw[hA];done)
    have hq2:false=(((M.chkW s).1).rules).stores:=by first|(rw[hE];done)|(rw[hE];rfl)|(rw[hA];done)
    have hq3:false=(((M.chkW s).1).rules).skip:=by first|(rw[hE];done)|(rw[hE];rfl)|(rw[hA];done)
    have hq4:false=(((M.chkW s).1).rules).relay:=by first|(rw[hE];done)|(rw[hE];rfl)|(rw[hA];done)
    have hq5:false=(((M.chkW s).1).rules).feed:=by first|(rw[hE];done)|(rw[hE];rfl)|(rw[hA];done)
    have hq6:false=(((M.chkW s).1).rules).again:=by first|(rw[hE];done)|(rw[hE];rfl)|(rw[hA];done)
    have hq7:0=(((M.chkW s).1).rules).capture:=by first|(rw[hE];done)|(rw[hE];rfl)|(rw[hA];done)
    have hq8:0=(((M.chkW s).1).rules).slam:=by first|(rw[hE];done)|(rw[hE];rfl)|(rw[hA];done)
    have hq9:[]=(((M.chkW s).1).start).pits:=by first|(rw[hE];done)|(rw[hE];rfl)|(rw[hA];done)
    have hq10:[]=(((M.chkW s).1).start).stores:=by first|(rw[hE];done)|(rw[hE];rfl)|(rw[hA];done)
    have hq11:0=(((M.chkW s).1).start).player:=by first|(rw[hE];done)|(rw[hE];rfl)|(rw[hA];done)
    have hq12:[]=((M.chkW s).1).moves:=by first|(rw[hE];done)|(rw[hE];rfl)|(rw[hA];done)
    have hq13:[]=(((M.chkW s).1).now).pits:=by first|(rw[hE];done)|(rw[hE];rfl)|(rw[hA];done)
    have hq14:[]=(((M.chkW s).1).now).stores:=by first|(rw[hE];done)|(rw[hE];rfl)|(rw[hA];done)
    have hq15:0=(((M.chkW s).1).now).player:=by first|(rw[hE];done)|(rw[hE];rfl)|(rw[hA];done)
    have hq16:0=((M.chkW s).1).resigned:=by first|(rw[hE];done)|(rw[hE];rfl)|(rw[hA];done)
    have hq17:(k:Int)=M.atS s:=by first|(rw[hE];done)|(rw[hE];rfl)|(rw[hA];done)
    have hq18:7=(M.chkW s).2.2:=by first|(rw[hE];done)|(rw[hE];rfl)|(rw[hA];done)
    refine zS<|Qb ?_
    refine Qm rfl<|zw 8 rfl rfl rfl ?_
    refine Qa rfl<|Qa rfl<|JL.nil ?_
    exact zro x22
   have n7:¬ 0<=gk.resigned:=by simpa using h28
   refine zS<|Qm rfl<|Qm rfl<|zg (Gd.t1 rfl rfl rfl) (λhc=>a0e rfl)<|zg (Gd.t1 rfl rfl rfl) (λhc=>a0w und_9 (gh hc rfl) rfl)<|zg (Gd.t1 rfl rfl rfl) (λhc=>a0e (gh hc rfl))<|zg (Gd.f2 rfl rfl rfl) (λhc=>a0e rfl)<|zg (Gd.f2 rfl rfl rfl) (λhc=>a0w und_9 (gh hc rfl) rfl)<|zg (Gd.t1 rfl rfl rfl) (λhc=>a0j (gh hc rfl) rfl (gvl rfl hc))<|Qq (a0d rfl rfl rfl)<|Qa rfl<|JL.nil ?_
   refine zi (λh29 h29'=>?_) λh29 h29'=>?_
   ·have hc9:=h29
    have hq:(M.aft ye24 M.resW).2=true/\((M.aft ye24 M.resW).1=[48]\/(M.aft ye24 M.resW).1=[49]):=by simpa[M.resW] using hc9
    have hS2:=hS.step hkl hyr (M.b8g n7 hq.1 hq.2) rfl
    refine zS<|Qm rfl<|zv rfl (λw hw=>zq8 ((M.aft ye24 ([114,101,115,105,103,110,115]:List UInt8)).1))<|Qm rfl<|Qx rfl rfl<|Qx rfl rfl<|Qa rfl<|Qa rfl<|zN<|Qm rfl<|Qf fh rfl<|zw 0 rfl rfl rfl ?_
    refine JL.nil ?_
    refine zx ?_
    refine Js.region<|Qm rfl<|Qp rfl rfl<|Qa rfl<|JL.nil ?_
    exact zag ⟨k + 1,M.resG gk (M.num (M.aft ye24 M.resW).1).1,_,_,_,_,_,_,_,_,_,_,_,_,_,_,_,rfl,rfl,by exact hS2,by first|omega|(dsimp only[M.resG];omega),by first|omega|(dsimp only[M.resG];omega),by first|omega|(dsimp only[M.resG];omega),by first|omega|(dsimp only[M.resG];omega),by first|omega|(dsimp only[M.resG];omega),by first|omega|(dsimp only[M.resG];omega),by first|omega|(dsimp only[M.resG];omega),by first|omega|(dsimp only[M.resG];omega),by first|omega|(dsimp only[M.resG];omega),by first|omega|(dsimp only[M.resG];omega),rfl⟩ x22 (by omega)
   have hc9:=h29
   obtain⟨n0,n1⟩:=M.res_not (y:=ye24) (by have h9:=hc9;simp only[M.resW];simpa using h9)
   have hye24:((M.split (M.u8 10) s)++([([]:List UInt8)]):List (List UInt8))[k]?=some ye24:=hye24
   refine Js.skip<|Js.blockEnd<|zS<|Qm rfl<|Qm rfl<|Qq (a0a el_31 rfl rfl (by omega) (by omega) rfl)<|Qw (a0c ty_9.h rfl (Mem.row (i:=7) rfl (txs_get' (xs:=((M.split (M.u8 10) s)++([([]:List UInt8)]))) hye24)))<|zc rfl (λw hw=>zq64 gk ye24 (ok_ hw)) ?_
   intro A34 c34 bl34 bh34 A35 c35 bl35 bh35 A36 c36 bl36 bh36 A37 c37 bl37 bh37 A38 c38 bl38 bh38
   refine Qm rfl<|Qx rfl rfl<|Qx rfl rfl<|za zeh λb39=>zw 0 rfl rfl rfl ?_
   refine Qa rfl<|zJ<|zS<|Qm rfl<|Qd rfl rfl<|JL.nil ?_
   refine zi (λh40 h40'=>?_) λh40 h40'=>?_
   ·have n9:¬ (M.nextR gk (M.numR ye24)).2=0:=by simpa using h40
    have hE:=hS.bad hkl hyr (M.a4t n7 n0 n1 n9) n9
    have hA:=M.atS_b hE n9
    have hq0:0=(((M.chkW s).1).rules).pits:=by first|(rw[hE];done)|(rw[hE];rfl)|(rw[hA];done)
    have hq1:0=(((M.chkW s).1).rules).seeds:=by first|(rw[hE];done)|(rw[hE];rfl)|(rw[hA];done)
    have hq2:false=(((M.chkW s).1).rules).stores:=by first|(rw[hE];done)|(rw[hE];rfl)|(rw[hA];done)
    have hq3:false=(((M.chkW s).1).rules).skip:=by first|(rw[hE];done)|(rw[hE];rfl)|(rw[hA];done)
    have hq4:false=(((M.chkW s).1).rules).relay:=by first|(rw[hE];done)|(rw[hE];rfl)|(rw[hA];done)
    have hq5:false=(((M.chkW s).1).rules).feed:=by first|(rw[hE];done)|(rw[hE];rfl)|(rw[hA];done)
    have hq6:false=(((M.chkW s).1).rules).again:=by first|(rw[hE];done)|(rw[hE];rfl)|(rw[hA];done)
    have hq7:0=(((M.chkW s).1).rules).capture:=by first|(rw[hE];done)|(rw[hE];rfl)|(rw[hA];done)
    have hq8:0=(((M.chkW s).1).rules).slam:=by first|(rw[hE];done)|(rw[hE];rfl)|(rw[hA];done)
    have hq9:[]=(((M.chkW s).1).start).pits:=by first|(rw[hE];done)|(rw[hE];rfl)|(rw[hA];done)
    have hq10:[]=(((M.chkW s).1).start).stores:=by first|(rw[hE];done)|(rw[hE];rfl)|(rw[hA];done)
    have hq11:0=(((M.chkW s).1).start).player:=by first|(rw[hE];done)|(rw[hE];rfl)|(rw[hA];done)
    have hq12:[]=((M.chkW s).1).moves:=by first|(rw[hE];done)|(rw[hE];rfl)|(rw[hA];done)
    have hq13:[]=(((M.chkW s).1).now).pits:=by first|(rw[hE];done)|(rw[hE];rfl)|(rw[hA];done)
    have hq14:[]=(((M.chkW s).1).now).stores:=by first|(rw[hE];done)|(rw[hE];rfl)|(rw[hA];done)
    have hq15:0=(((M.chkW s).1).now).player:=by first|(rw[hE];done)|(rw[hE];rfl)|(rw[hA];done)
    have hq16:0=((M.chkW s).1).resigned:=by first|(rw[hE];done)|(rw[hE];rfl)|(rw[hA];done)
    have hq17:(k:Int)=M.atS s:=by first|(rw[hE];done)|(rw[hE];rfl)|(rw[hA];done)
    have hq18:((M.nextR gk (M.numR ye24)).2)=(M.chkW s).2.2:=by first|(rw[hE];done)|(rw[hE];rfl)|(rw[hA];done)
    refine zS<|Qb ?_
    refine Qm rfl<|Qm rfl<|zw 14 rfl rfl rfl ?_
    refine Qa rfl<|Qa rfl<|JL.nil ?_
    exact zro x22
   have n9:(M.nextR gk (M.numR ye24)).2=0:=by simpa using h40
   have hS2:=hS.step hkl hyr (M.a9t n7 n0 n1 n9) rfl
   refine Js.skip<|Js.region<|Q9 0 rfl rfl ?_
   refine zw 6 rfl rfl rfl ?_
   refine JL.nil<|Js.blockEnd<|Js.region<|Qm rfl<|Qp rfl rfl<|Qa rfl<|JL.nil ?_
   refine zd [6,1,1,1,1,1,6,6,6] rfl λu41 x41=>?_
   exact zag ⟨k + 1,(M.nextR gk (M.numR ye24)).1,_,_,_,_,_,_,_,_,_,_,_,_,_,_,_,rfl,rfl,by exact hS2,by first|omega|(dsimp only[M.resG];omega),by first|omega|(dsimp only[M.resG];omega),by first|omega|(dsimp only[M.resG];omega),by first|omega|(dsimp only[M.resG];omega),by first|omega|(dsimp only[M.resG];omega),by first|omega|(dsimp only[M.resG];omega),by first|omega|(dsimp only[M.resG];omega),by first|omega|(dsimp only[M.resG];omega),by first|omega|(dsimp only[M.resG];omega),by first|omega|(dsimp only[M.resG];omega),rfl⟩ (x22.trans x41) (by omega)
  have hkl:(M.recL s).length<=k:=by have h9:=h23';have hll:(M.recS s).length=(M.recL s).length + 1:=(by rw[hS.l];simp);rw[hrs] at hll;(try simp at hll);omega
  refine zx ?_
  refine Js.seq<|zS<|Qm rfl<|Qt rfl<|JL.nil ?_
  refine zi (λh42 h42'=>?_) λh42 h42'=>?_
  ·have hE:=hS.end_ hkl (by have h9:=h42;rw[hwh];simpa using h9)
   have hA:=M.atS_b hE (show ¬ (7:Int)=0 by decide)
   have hkq:(k:Int)=((((M.split (M.u8 10) s).length):Int) - 1) + 1:=by have h8:=hS.kn;have hll:(M.recS s).length=(M.recL s).length + 1:=(by rw[hS.l];simp);rw[hrs] at hll;(try simp at hll);omega
   rw[hkq] at hA
   have hq0:0=(((M.chkW s).1).rules).pits:=by first|(rw[hE];done)|(rw[hE];rfl)|(rw[hA];done)
   have hq1:0=(((M.chkW s).1).rules).seeds:=by first|(rw[hE];done)|(rw[hE];rfl)|(rw[hA];done)
   have hq2:false=(((M.chkW s).1).rules).stores:=by first|(rw[hE];done)|(rw[hE];rfl)|(rw[hA];done)
   have hq3:false=(((M.chkW s).1).rules).skip:=by first|(rw[hE];done)|(rw[hE];rfl)|(rw[hA];done)
   have hq4:false=(((M.chkW s).1).rules).relay:=by first|(rw[hE];done)|(rw[hE];rfl)|(rw[hA];done)
   have hq5:false=(((M.chkW s).1).rules).feed:=by first|(rw[hE];done)|(rw[hE];rfl)|(rw[hA];done)
   have hq6:false=(((M.chkW s).1).rules).again:=by first|(rw[hE];done)|(rw[hE];rfl)|(rw[hA];done)
   have hq7:0=(((M.chkW s).1).rules).capture:=by first|(rw[hE];done)|(rw[hE];rfl)|(rw[hA];done)
   have hq8:0=(((M.chkW s).1).rules).slam:=by first|(rw[hE];done)|(rw[hE];rfl)|(rw[hA];done)
   have hq9:[]=(((M.chkW s).1).start).pits:=by first|(rw[hE];done)|(rw[hE];rfl)|(rw[hA];done)
   have hq10:[]=(((M.chkW s).1).start).stores:=by first|(rw[hE];done)|(rw[hE];rfl)|(rw[hA];done)
   have hq11:0=(((M.chkW s).1).start).player:=by first|(rw[hE];done)|(rw[hE];rfl)|(rw[hA];done)
   have hq12:[]=((M.chkW s).1).moves:=by first|(rw[hE];done)|(rw[hE];rfl)|(rw[hA];done)
   have hq13:[]=(((M.chkW s).1).now).pits:=by first|(rw[hE];done)|(rw[hE];rfl)|(rw[hA];done)
   have hq14:[]=(((M.chkW s).1).now).stores:=by first|(rw[hE];done)|(rw[hE];rfl)|(rw[hA];done)
   have hq15:0=(((M.chkW s).1).now).player:=by first|(rw[hE];done)|(rw[hE];rfl)|(rw[hA];done)
   have hq16:0=((M.chkW s).1).resigned:=by first|(rw[hE];done)|(rw[hE];rfl)|(rw[hA];done)
   have hq17:((((((M.split (M.u8 10) s).length):Int) - 1) + 1) - 1)=M.atS s:=by first|(rw[hE];done)|(rw[hE];rfl)|(rw[hA];done)
   have hq18:7=(M.chkW s).2.2:=by first|(rw[hE];done)|(rw[hE];rfl)|(rw[hA];done)
   refine zS<|Qb ?_
   refine Qm rfl<|Qs rfl rfl<|zw 8 rfl rfl rfl ?_
   refine Qa rfl<|Qa rfl<|JL.nil ?_
   exact zro x22
  have hE:=hS.done hkl (by have h9:=h42;rw[hwh];simpa using h9)
  have hA:=M.atS_0 hE
  have hq0:gk.rules.pits=(((M.chkW s).1).rules).pits:=by first|(rw[hE];done)|(rw[hE];rfl)|(rw[hA];done)
  have hq1:gk.rules.seeds=(((M.chkW s).1).rules).seeds:=by first|(rw[hE];done)|(rw[hE];rfl)|(rw[hA];done)
  have hq2:gk.rules.stores=(((M.chkW s).1).rules).stores:=by first|(rw[hE];done)|(rw[hE];rfl)|(rw[hA];done)
  have hq3:gk.rules.skip=(((M.chkW s).1).rules).skip:=by first|(rw[hE];done)|(rw[hE];rfl)|(rw[hA];done)
  have hq4:gk.rules.relay=(((M.chkW s).1).rules).relay:=by first|(rw[hE];done)|(rw[hE];rfl)|(rw[hA];done)
  have hq5:gk.rules.feed=(((M.chkW s).1).rules).feed:=by first|(rw[hE];done)|(rw[hE];rfl)|(rw[hA];done)
  have hq6:gk.rules.again=(((M.chkW s).1).rules).again:=by first|(rw[hE];done)|(rw[hE];rfl)|(rw[hA];done)
  have hq7:gk.rules.capture=(((M.chkW s).1).rules).capture:=by first|(rw[hE];done)|(rw[hE];rfl)|(rw[hA];done)
  have hq8:gk.rules.slam=(((M.chkW s).1).rules).slam:=by first|(rw[hE];done)|(rw[hE];rfl)|(rw[hA];done)
  have hq9:gk.start.pits=(((M.chkW s).1).start).pits:=by first|(rw[hE];done)|(rw[hE];rfl)|(rw[hA];done)
  have hq10:gk.start.stores=(((M.chkW s).1).start).stores:=by first|(rw[hE];done)|(rw[hE];rfl)|(rw[hA];done)
  have hq11:gk.start.player=(((M.chkW s).1).start).player:=by first|(rw[hE];done)|(rw[hE];rfl)|(rw[hA];done)
  have hq12:gk.moves=((M.chkW s).1).moves:=by first|(rw[hE];done)|(rw[hE];rfl)|(rw[hA];done)
  have hq13:gk.now.pits=(((M.chkW s).1).now).pits:=by first|(rw[hE];done)|(rw[hE];rfl)|(rw[hA];done)
  have hq14:gk.now.stores=(((M.chkW s).1).now).stores:=by first|(rw[hE];done)|(rw[hE];rfl)|(rw[hA];done)
  have hq15:gk.now.player=(((M.chkW s).1).now).player:=by first|(rw[hE];done)|(rw[hE];rfl)|(rw[hA];done)
  have hq16:gk.resigned=((M.chkW s).1).resigned:=by first|(rw[hE];done)|(rw[hE];rfl)|(rw[hA];done)
  have hq17:0=M.atS s:=by first|(rw[hE];done)|(rw[hE];rfl)|(rw[hA];done)
  have hq18:0=(M.chkW s).2.2:=by first|(rw[hE];done)|(rw[hE];rfl)|(rw[hA];done)
  refine Js.skip<|zS<|Q9 0 rfl rfl ?_
  refine zw 8 rfl rfl rfl ?_
  refine Qa rfl<|Qa rfl<|JL.nil ?_
  exact zro x22
 have hrs:M.recS s=(M.split (M.u8 10) s):=M.recS_y (by have h9:=h7;rw[hwh];simp_all) (λd2=>by have h9:=h7;have d3:(M.split (M.u8 10) s).length=1:=d2;simp_all)
 have hr2:2<=((M.split (M.u8 10) s)).length:=by rw[<- hrs];exact M.b9o s
 have hmem:∀ x∈((M.split (M.u8 10) s)),x.length<=90000:=λx hx=>Nat.le_trans (M.b8j (by rw[hrs];exact hx)) (by omega)
 obtain⟨y0_,hy0_⟩:∃ x,((M.split (M.u8 10) s))[0]?=some x:=⟨_,List.getElem?_eq_getElem (by omega)⟩
 obtain⟨y1_,hy1_⟩:∃ x,((M.split (M.u8 10) s))[1]?=some x:=⟨_,List.getElem?_eq_getElem (by omega)⟩
 obtain⟨H1_,H2_⟩:=M.c0c (s:=s) (x:=M.headS (M.ln (M.split (M.u8 10) s) 0) (M.ln (M.split (M.u8 10) s) 1) (decide (((M.split (M.u8 10) s)).length=2) && !(decide (ye3=([]:List UInt8))))) (l0:=y0_) (l1:=y1_) (by rw[hrs];exact hy0_) (by rw[hrs];exact hy1_) (by rw[hrs,hwh,M.b1e hy0_,M.b1e hy1_])
 refine Js.skip<|zS<|Qm rfl<|Qm rfl<|zc rfl (λw hw=>zq65 (M.split (M.u8 10) s) (decide (ye3=([]:List UInt8))) (a4g (xs:=(M.split (M.u8 10) s)) (hw.pr (i:=0) rfl))) ?_
 intro A45 c45 bl45 bh45 A46 c46 bl46 bh46 A47 c47 bl47 bh47 A48 c48 bl48 bh48 A49 c49 bl49 bh49
 refine Qm rfl<|Qx rfl rfl<|Qx rfl rfl<|Qx rfl rfl<|za zeh λb50=>zw 0 rfl rfl rfl ?_
 refine Qa rfl<|Qa rfl<|zJ<|zS<|Qm rfl<|Qd rfl rfl<|JL.nil ?_
 refine zi (λh51 h51'=>?_) λh51 h51'=>?_
 ·have n0:=h51
  have hE:=H1_ (by simpa using n0)
  have hA:=M.atS_b hE (by simpa using n0)
  have hq0:0=(((M.chkW s).1).rules).pits:=by first|(rw[hE];done)|(rw[hE];rfl)|(rw[hA];done)
  have hq1:0=(((M.chkW s).1).rules).seeds:=by first|(rw[hE];done)|(rw[hE];rfl)|(rw[hA];done)
  have hq2:false=(((M.chkW s).1).rules).stores:=by first|(rw[hE];done)|(rw[hE];rfl)|(rw[hA];done)
  have hq3:false=(((M.chkW s).1).rules).skip:=by first|(rw[hE];done)|(rw[hE];rfl)|(rw[hA];done)
  have hq4:false=(((M.chkW s).1).rules).relay:=by first|(rw[hE];done)|(rw[hE];rfl)|(rw[hA];done)
  have hq5:false=(((M.chkW s).1).rules).feed:=by first|(rw[hE];done)|(rw[hE];rfl)|(rw[hA];done)
  have hq6:false=(((M.chkW s).1).rules).again:=by first|(rw[hE];done)|(rw[hE];rfl)|(rw[hA];done)
  have hq7:0=(((M.chkW s).1).rules).capture:=by first|(rw[hE];done)|(rw[hE];rfl)|(rw[hA];done)
  have hq8:0=(((M.chkW s).1).rules).slam:=by first|(rw[hE];done)|(rw[hE];rfl)|(rw[hA];done)
  have hq9:[]=(((M.chkW s).1).start).pits:=by first|(rw[hE];done)|(rw[hE];rfl)|(rw[hA];done)
  have hq10:[]=(((M.chkW s).1).start).stores:=by first|(rw[hE];done)|(rw[hE];rfl)|(rw[hA];done)
  have hq11:0=(((M.chkW s).1).start).player:=by first|(rw[hE];done)|(rw[hE];rfl)|(rw[hA];done)
  have hq12:[]=((M.chkW s).1).moves:=by first|(rw[hE];done)|(rw[hE];rfl)|(rw[hA];done)
  have hq13:[]=(((M.chkW s).1).now).pits:=by first|(rw[hE];done)|(rw[hE];rfl)|(rw[hA];done)
  have hq14:[]=(((M.chkW s).1).now).stores:=by first|(rw[hE];done)|(rw[hE];rfl)|(rw[hA];done)
  have hq15:0=(((M.chkW s).1).now).player:=by first|(rw[hE];done)|(rw[hE];rfl)|(rw[hA];done)
  have hq16:0=((M.chkW s).1).resigned:=by first|(rw[hE];done)|(rw[hE];rfl)|(rw[hA];done)
  have hq17:((M.headS (M.ln (M.split (M.u8 10) s) 0) (M.ln (M.split (M.u8 10) s) 1) (decide ((M.split (M.u8 10) s).length=2) && !(decide (ye3=([]:List UInt8))))).2.1)=M.atS s:=by first|(rw[hE];done)|(rw[hE];rfl)|(rw[hA];done)
  have hq18:((M.headS (M.ln (M.split (M.u8 10) s) 0) (M.ln (M.split (M.u8 10) s) 1) (decide ((M.split (M.u8 10) s).length=2) && !(decide (ye3=([]:List UInt8))))).2.2)=(M.chkW s).2.2:=by first|(rw[hE];done)|(rw[hE];rfl)|(rw[hA];done)
  refine zS<|Qb ?_
  refine Qm rfl<|Qm rfl<|zw 7 rfl rfl rfl ?_
  refine Qa rfl<|Qa rfl<|JL.nil ?_
  exact zro (Up.refl _ _)
 have hS0:=H2_ (by simpa using h51)
 refine Js.skip<|Js.seq<|zS<|Qa rfl<|JL.nil<|Js.block ?_
 refine zl [2,5,6,7,8] (λF U l os u m=>∃ (k:Nat) (gk:M.Gam) (A52_8_9:Option Addr) (c52_8_9:Nat) (g52_8_9:List Nat) (A52_8_10:Option Addr) (c52_8_10:Nat) (g52_8_10:List Nat) (A52_8_12:Option Addr) (c52_8_12:Nat) (g52_8_12:List Nat) (A52_8_13:Option Addr) (c52_8_13:Nat) (g52_8_13:List Nat) (A52_8_14:Option Addr) (c52_8_14:Nat) (g52_8_14:List Nat),l=F [(11,.int .i64 (k:Int))]/\os=U [some (boxO b50 [.int .i64 gk.rules.pits,.int .i64 gk.rules.seeds,.bool gk.rules.stores,.bool gk.rules.skip,.bool gk.rules.relay,.bool gk.rules.feed,.bool gk.rules.again,.int .i64 gk.rules.capture,.int .i64 gk.rules.slam,.slice A52_8_9 gk.start.pits.length c52_8_9,.slice A52_8_10 gk.start.stores.length c52_8_10,.int .i64 gk.start.player,.slice A52_8_12 gk.moves.length c52_8_12,.slice A52_8_13 gk.now.pits.length c52_8_13,.slice A52_8_14 gk.now.stores.length c52_8_14,.int .i64 gk.now.player,.int .i64 gk.resigned] 53),some (rowO 2 1 (.slice A52_8_14 gk.now.stores.length c52_8_14) gk.now.stores.length (ints_ gk.now.stores) g52_8_14),some (rowO 2 1 (.slice A52_8_13 gk.now.pits.length c52_8_13) gk.now.pits.length (ints_ gk.now.pits) g52_8_13),some (rowO 2 1 (.slice A52_8_12 gk.moves.length c52_8_12) gk.moves.length (ints_ gk.moves) g52_8_12),some (rowO 2 1 (.slice A52_8_10 gk.start.stores.length c52_8_10) gk.start.stores.length (ints_ gk.start.stores) g52_8_10),some (rowO 2 1 (.slice A52_8_9 gk.start.pits.length c52_8_9) gk.start.pits.length (ints_ gk.start.pits) g52_8_9)]/\(M.SpI s k gk)/\(gk.start.pits.length<=c52_8_9)/\(c52_8_9<=9223372036854775807)/\(gk.start.stores.length<=c52_8_10)/\(c52_8_10<=9223372036854775807)/\(gk.moves.length<=c52_8_12)/\(c52_8_12<=9223372036854775807)/\(gk.now.pits.length<=c52_8_13)/\(c52_8_13<=9223372036854775807)/\(gk.now.stores.length<=c52_8_14)/\(c52_8_14<=9223372036854775807)/\m=(M.recL s).length - k) ⟨2,(M.headS (M.ln (M.split (M.u8 10) s) 0) (M.ln (M.split (M.u8 10) s) 1) (decide (((M.split (M.u8 10) s)).length=2) && !(decide (ye3=([]:List UInt8))))).1,_,_,_,_,_,_,_,_,_,_,_,_,_,_,_,rfl,rfl,by exact hS0,zu,zu,zu,zu,zu,zu,zu,zu,zu,zu,rfl⟩ ?_
 rintro _ _ u52 _ ⟨k,gk,A52_8_9,c52_8_9,g52_8_9,A52_8_10,c52_8_10,g52_8_10,A52_8_12,c52_8_12,g52_8_12,A52_8_13,c52_8_13,g52_8_13,A52_8_14,c52_8_14,g52_8_14,rfl,rfl,hS,f52_1,f52_2,f52_3,f52_4,f52_5,f52_6,f52_7,f52_8,f52_9,f52_10,rfl⟩ x52
 refine zn ?_
 obtain⟨gb1,gb2,gb3,gb4,gb5⟩:=M.b4l hS.ok
 have hkn:=hS.kn
 have hll:(M.recS s).length=(M.recL s).length + 1:=by rw[hS.l];simp
 refine Js.seq<|zS<|Qm rfl<|Qm rfl<|Ql rfl rfl<|JL.nil ?_
 refine zi (λh53 h53'=>?_) λh53 h53'=>?_
 ·have hkl:k < (M.recL s).length:=by have h9:=h53';rw[hrs] at hll;(try simp at hll);omega
  have hkc:k < (M.recS s).length:=by omega
  rw[hrs] at hkc
  obtain⟨ye54,hye54⟩:∃ x,(M.split (M.u8 10) s)[k]?=some x:=⟨_,List.getElem?_eq_getElem (by omega)⟩
  have hyr:(M.recS s)[k]?=some ye54:=by rw[hrs];exact hye54
  have hyl:=hmem _ (List.mem_of_getElem? hye54)
  have hal:=M.b2l ye54 ([114,101,115,105,103,110,115]:List UInt8)
  have hye54:(M.split (M.u8 10) s:List (List UInt8))[k]?=some ye54:=hye54
  refine Js.skip<|Js.seq<|Js.block<|zS<|Qm rfl<|Qm rfl<|Qq (a0a el_31 rfl rfl (by omega) (by omega) rfl)<|Qw (a0c ty_9.h rfl (Mem.row (i:=6) rfl (txs_get' (xs:=(M.split (M.u8 10) s)) hye54)))<|zv rfl (λw hw=>zq26 ye54 ([114,101,115,105,103,110,115]:List UInt8))<|Qm rfl<|Qx rfl rfl<|Qx rfl rfl<|Qa rfl<|Qa rfl ?_
  refine zJ<|Js.block<|zS<|Qf fh rfl<|Q0 0 rfl rfl rfl<|Qh rfl rfl<|Qa rfl<|JL.nil ?_
  refine zi (λh57 h57'=>?_) λh57 h57'=>?_
  ·have hE:=hS.bad hkl hyr (M.b2p (by simpa using h57)) (show ¬ (7:Int)=0 by decide)
   have hA:=M.atS_b hE (show ¬ (7:Int)=0 by decide)
   have hq0:0=(((M.chkW s).1).rules).pits:=by first|(rw[hE];done)|(rw[hE];rfl)|(rw[hA];done)
   have hq1:0=(((M.chkW s).1).rules).seeds:=by first|(rw[hE];done)|(rw[hE];rfl)|(rw[hA];done)
   have hq2:false=(((M.chkW s).1).rules).stores:=by first|(rw[hE];done)|(rw[hE];rfl)|(rw[hA];done)
   have hq3:false=(((M.chkW s).1).rules).skip:=by first|(rw[hE];done)|(rw[hE];rfl)|(rw[hA];done)
   have hq4:false=(((M.chkW s).1).rules).relay:=by first|(rw[hE];done)|(rw[hE];rfl)|(rw[hA];done)
   have hq5:false=(((M.chkW s).1).rules).feed:=by first|(rw[hE];done)|(rw[hE];rfl)|(rw[hA];done)
   have hq6:false=(((M.chkW s).1).rules).again:=by first|(rw[hE];done)|(rw[hE];rfl)|(rw[hA];done)
   have hq7:0=(((M.chkW s).1).rules).capture:=by first|(rw[hE];done)|(rw[hE];rfl)|(rw[hA];done)
   have hq8:0=(((M.chkW s).1).rules).slam:=by first|(rw[hE];done)|(rw[hE];rfl)|(rw[hA];done)
   have hq9:[]=(((M.chkW s).1).start).pits:=by first|(rw[hE];done)|(rw[hE];rfl)|(rw[hA];done)
   have hq10:[]=(((M.chkW s).1).start).stores:=by first|(rw[hE];done)|(rw[hE];rfl)|(rw[hA];done)
   have hq11:0=(((M.chkW s).1).start).player:=by first|(rw[hE];done)|(rw[hE];rfl)|(rw[hA];done)
   have hq12:[]=((M.chkW s).1).moves:=by first|(rw[hE];done)|(rw[hE];rfl)|(rw[hA];done)
   have hq13:[]=(((M.chkW s).1).now).pits:=by first|(rw[hE];done)|(rw[hE];rfl)|(rw[hA];done)
   have hq14:[]=(((M.chkW s).1).now).stores:=by first|(rw[hE];done)|(rw[hE];rfl)|(rw[hA];done)
   have hq15:0=(((M.chkW s).1).now).player:=by first|(rw[hE];done)|(rw[hE];rfl)|(rw[hA];done)
   have hq16:0=((M.chkW s).1).resigned:=by first|(rw[hE];done)|(rw[hE];rfl)|(rw[hA];done)
   have hq17:(k:Int)=M.atS s:=by first|(rw[hE];done)|(rw[hE];rfl)|(rw[hA];done)
   have hq18:7=(M.chkW s).2.2:=by first|(rw[hE];done)|(rw[hE];rfl)|(rw[hA];done)
   refine zS<|Qb ?_
   refine Qm rfl<|zw 7 rfl rfl rfl ?_
   refine Qa rfl<|Qa rfl<|JL.nil ?_
   exact zro x52
  have n7:¬ 0<=gk.resigned:=by simpa using h57
  refine zS<|Qm rfl<|Qm rfl<|zg (Gd.t1 rfl rfl rfl) (λhc=>a0e rfl)<|zg (Gd.t1 rfl rfl rfl) (λhc=>a0w und_9 (gh hc rfl) rfl)<|zg (Gd.t1 rfl rfl rfl) (λhc=>a0e (gh hc rfl))<|zg (Gd.f2 rfl rfl rfl) (λhc=>a0e rfl)<|zg (Gd.f2 rfl rfl rfl) (λhc=>a0w und_9 (gh hc rfl) rfl)<|zg (Gd.t1 rfl rfl rfl) (λhc=>a0j (gh hc rfl) rfl (gvl rfl hc))<|Qq (a0d rfl rfl rfl)<|Qa rfl<|JL.nil ?_
  refine zi (λh58 h58'=>?_) λh58 h58'=>?_
  ·have hc9:=h58
   have hq:(M.aft ye54 M.resW).2=true/\((M.aft ye54 M.resW).1=[48]\/(M.aft ye54 M.resW).1=[49]):=by simpa[M.resW] using hc9
   have hS2:=hS.step hkl hyr (M.b8g n7 hq.1 hq.2) rfl
   refine zS<|Qm rfl<|zv rfl (λw hw=>zq8 ((M.aft ye54 ([114,101,115,105,103,110,115]:List UInt8)).1))<|Qm rfl<|Qx rfl rfl<|Qx rfl rfl<|Qa rfl<|Qa rfl<|zN<|Qm rfl<|Qf fh rfl<|zw 0 rfl rfl rfl ?_
   refine JL.nil ?_
   refine zx ?_
   refine Js.region<|Qm rfl<|Qp rfl rfl<|Qa rfl<|JL.nil ?_
   exact zag ⟨k + 1,M.resG gk (M.num (M.aft ye54 M.resW).1).1,_,_,_,_,_,_,_,_,_,_,_,_,_,_,_,rfl,rfl,by exact hS2,by first|omega|(dsimp only[M.resG];omega),by first|omega|(dsimp only[M.resG];omega),by first|omega|(dsimp only[M.resG];omega),by first|omega|(dsimp only[M.resG];omega),by first|omega|(dsimp only[M.resG];omega),by first|omega|(dsimp only[M.resG];omega),by first|omega|(dsimp only[M.resG];omega),by first|omega|(dsimp only[M.resG];omega),by first|omega|(dsimp only[M.resG];omega),by first|omega|(dsimp only[M.resG];omega),rfl⟩ x52 (by omega)
  have hc9:=h58
  obtain⟨n0,n1⟩:=M.res_not (y:=ye54) (by have h9:=hc9;simp only[M.resW];simpa using h9)
  have hye54:(M.split (M.u8 10) s:List (List UInt8))[k]?=some ye54:=hye54
  refine Js.skip<|Js.blockEnd<|zS<|Qm rfl<|Qm rfl<|Qq (a0a el_31 rfl rfl (by omega) (by omega) rfl)<|Qw (a0c ty_9.h rfl (Mem.row (i:=6) rfl (txs_get' (xs:=(M.split (M.u8 10) s)) hye54)))<|zc rfl (λw hw=>zq64 gk ye54 (ok_ hw)) ?_
  intro A63 c63 bl63 bh63 A64 c64 bl64 bh64 A65 c65 bl65 bh65 A66 c66 bl66 bh66 A67 c67 bl67 bh67
  refine Qm rfl<|Qx rfl rfl<|Qx rfl rfl<|za zeh λb68=>zw 0 rfl rfl rfl ?_
  refine Qa rfl<|zJ<|zS<|Qm rfl<|Qd rfl rfl<|JL.nil ?_
  refine zi (λh69 h69'=>?_) λh69 h69'=>?_
  ·have n9:¬ (M.nextR gk (M.numR ye54)).2=0:=by simpa using h69
   have hE:=hS.bad hkl hyr (M.a4t n7 n0 n1 n9) n9
   have hA:=M.atS_b hE n9
   have hq0:0=(((M.chkW s).1).rules).pits:=by first|(rw[hE];done)|(rw[hE];rfl)|(rw[hA];done)
   have hq1:0=(((M.chkW s).1).rules).seeds:=by first|(rw[hE];done)|(rw[hE];rfl)|(rw[hA];done)
   have hq2:false=(((M.chkW s).1).rules).stores:=by first|(rw[hE];done)|(rw[hE];rfl)|(rw[hA];done)
   have hq3:false=(((M.chkW s).1).rules).skip:=by first|(rw[hE];done)|(rw[hE];rfl)|(rw[hA];done)
   have hq4:false=(((M.chkW s).1).rules).relay:=by first|(rw[hE];done)|(rw[hE];rfl)|(rw[hA];done)
   have hq5:false=(((M.chkW s).1).rules).feed:=by first|(rw[hE];done)|(rw[hE];rfl)|(rw[hA];done)
   have hq6:false=(((M.chkW s).1).rules).again:=by first|(rw[hE];done)|(rw[hE];rfl)|(rw[hA];done)
   have hq7:0=(((M.chkW s).1).rules).capture:=by first|(rw[hE];done)|(rw[hE];rfl)|(rw[hA];done)
   have hq8:0=(((M.chkW s).1).rules).slam:=by first|(rw[hE];done)|(rw[hE];rfl)|(rw[hA];done)
   have hq9:[]=(((M.chkW s).1).start).pits:=by first|(rw[hE];done)|(rw[hE];rfl)|(rw[hA];done)
   have hq10:[]=(((M.chkW s).1).start).stores:=by first|(rw[hE];done)|(rw[hE];rfl)|(rw[hA];done)
   have hq11:0=(((M.chkW s).1).start).player:=by first|(rw[hE];done)|(rw[hE];rfl)|(rw[hA];done)
   have hq12:[]=((M.chkW s).1).moves:=by first|(rw[hE];done)|(rw[hE];rfl)|(rw[hA];done)
   have hq13:[]=(((M.chkW s).1).now).pits:=by first|(rw[hE];done)|(rw[hE];rfl)|(rw[hA];done)
   have hq14:[]=(((M.chkW s).1).now).stores:=by first|(rw[hE];done)|(rw[hE];rfl)|(rw[hA];done)
   have hq15:0=(((M.chkW s).1).now).player:=by first|(rw[hE];done)|(rw[hE];rfl)|(rw[hA];done)
   have hq16:0=((M.chkW s).1).resigned:=by first|(rw[hE];done)|(rw[hE];rfl)|(rw[hA];done)
   have hq17:(k:Int)=M.atS s:=by first|(rw[hE];done)|(rw[hE];rfl)|(rw[hA];done)
   have hq18:((M.nextR gk (M.numR ye54)).2)=(M.chkW s).2.2:=by first|(rw[hE];done)|(rw[hE];rfl)|(rw[hA];done)
   refine zS<|Qb ?_
   refine Qm rfl<|Qm rfl<|zw 13 rfl rfl rfl ?_
   refine Qa rfl<|Qa rfl<|JL.nil ?_
   exact zro x52
  have n9:(M.nextR gk (M.numR ye54)).2=0:=by simpa using h69
  have hS2:=hS.step hkl hyr (M.a9t n7 n0 n1 n9) rfl
  refine Js.skip<|Js.region<|Q9 0 rfl rfl ?_
  refine zw 6 rfl rfl rfl ?_
  refine JL.nil<|Js.blockEnd<|Js.region<|Qm rfl<|Qp rfl rfl<|Qa rfl<|JL.nil ?_
  refine zd [6,1,1,1,1,1,6,6] rfl λu70 x70=>?_
  exact zag ⟨k + 1,(M.nextR gk (M.numR ye54)).1,_,_,_,_,_,_,_,_,_,_,_,_,_,_,_,rfl,rfl,by exact hS2,by first|omega|(dsimp only[M.resG];omega),by first|omega|(dsimp only[M.resG];omega),by first|omega|(dsimp only[M.resG];omega),by first|omega|(dsimp only[M.resG];omega),by first|omega|(dsimp only[M.resG];omega),by first|omega|(dsimp only[M.resG];omega),by first|omega|(dsimp only[M.resG];omega),by first|omega|(dsimp only[M.resG];omega),by first|omega|(dsimp only[M.resG];omega),by first|omega|(dsimp only[M.resG];omega),rfl⟩ (x52.trans x70) (by omega)
 have hkl:(M.recL s).length<=k:=by have h9:=h53';have hll:(M.recS s).length=(M.recL s).length + 1:=(by rw[hS.l];simp);rw[hrs] at hll;(try simp at hll);omega
 refine zx ?_
 refine Js.seq<|zS<|Qm rfl<|Qt rfl<|JL.nil ?_
 refine zi (λh71 h71'=>?_) λh71 h71'=>?_
 ·have hE:=hS.end_ hkl (by have h9:=h71;rw[hwh];simpa using h9)
  have hA:=M.atS_b hE (show ¬ (7:Int)=0 by decide)
  have hkq:(k:Int)=(((M.split (M.u8 10) s).length):Int) - 1:=by have h8:=hS.kn;have hll:(M.recS s).length=(M.recL s).length + 1:=(by rw[hS.l];simp);rw[hrs] at hll;(try simp at hll);omega
  rw[hkq] at hA
  have hq0:0=(((M.chkW s).1).rules).pits:=by first|(rw[hE];done)|(rw[hE];rfl)|(rw[hA];done)
  have hq1:0=(((M.chkW s).1).rules).seeds:=by first|(rw[hE];done)|(rw[hE];rfl)|(rw[hA];done)
  have hq2:false=(((M.chkW s).1).rules).stores:=by first|(rw[hE];done)|(rw[hE];rfl)|(rw[hA];done)
  have hq3:false=(((M.chkW s).1).rules).skip:=by first|(rw[hE];done)|(rw[hE];rfl)|(rw[hA];done)
  have hq4:false=(((M.chkW s).1).rules).relay:=by first|(rw[hE];done)|(rw[hE];rfl)|(rw[hA];done)
  have hq5:false=(((M.chkW s).1).rules).feed:=by first|(rw[hE];done)|(rw[hE];rfl)|(rw[hA];done)
  have hq6:false=(((M.chkW s).1).rules).again:=by first|(rw[hE];done)|(rw[hE];rfl)|(rw[hA];done)
  have hq7:0=(((M.chkW s).1).rules).capture:=by first|(rw[hE];done)|(rw[hE];rfl)|(rw[hA];done)
  have hq8:0=(((M.chkW s).1).rules).slam:=by first|(rw[hE];done)|(rw[hE];rfl)|(rw[hA];done)
  have hq9:[]=(((M.chkW s).1).start).pits:=by first|(rw[hE];done)|(rw[hE];rfl)|(rw[hA];done)
  have hq10:[]=(((M.chkW s).1).start).stores:=by first|(rw[hE];done)|(rw[hE];rfl)|(rw[hA];done)
  have hq11:0=(((M.chkW s).1).start).player:=by first|(rw[hE];done)|(rw[hE];rfl)|(rw[hA];done)
  have hq12:[]=((M.chkW s).1).moves:=by first|(rw[hE];done)|(rw[hE];rfl)|(rw[hA];done)
  have hq13:[]=(((M.chkW s).1).now).pits:=by first|(rw[hE];done)|(rw[hE];rfl)|(rw[hA];done)
  have hq14:[]=(((M.chkW s).1).now).stores:=by first|(rw[hE];done)|(rw[hE];rfl)|(rw[hA];done)
  have hq15:0=(((M.chkW s).1).now).player:=by first|(rw[hE];done)|(rw[hE];rfl)|(rw[hA];done)
  have hq16:0=((M.chkW s).1).resigned:=by first|(rw[hE];done)|(rw[hE];rfl)|(rw[hA];done)
  have hq17:(((((M.split (M.u8 10) s).length):Int) - 1) - 1)=M.atS s:=by first|(rw[hE];done)|(rw[hE];rfl)|(rw[hA];done)
  have hq18:7=(M.chkW s).2.2:=by first|(rw[hE];done)|(rw[hE];rfl)|(rw[hA];done)
  refine zS<|Qb ?_
  refine Qm rfl<|Qs rfl rfl<|zw 7 rfl rfl rfl ?_
  refine Qa rfl<|Qa rfl<|JL.nil ?_
  exact zro x52
 have hE:=hS.done hkl (by have h9:=h71;rw[hwh];simpa using h9)
 have hA:=M.atS_0 hE
 have hq0:gk.rules.pits=(((M.chkW s).1).rules).pits:=by first|(rw[hE];done)|(rw[hE];rfl)|(rw[hA];done)
 have hq1:gk.rules.seeds=(((M.chkW s).1).rules).seeds:=by first|(rw[hE];done)|(rw[hE];rfl)|(rw[hA];done)
 have hq2:gk.rules.stores=(((M.chkW s).1).rules).stores:=by first|(rw[hE];done)|(rw[hE];rfl)|(rw[hA];done)
 have hq3:gk.rules.skip=(((M.chkW s).1).rules).skip:=by first|(rw[hE];done)|(rw[hE];rfl)|(rw[hA];done)
 have hq4:gk.rules.relay=(((M.chkW s).1).rules).relay:=by first|(rw[hE];done)|(rw[hE];rfl)|(rw[hA];done)
 have hq5:gk.rules.feed=(((M.chkW s).1).rules).feed:=by first|(rw[hE];done)|(rw[hE];rfl)|(rw[hA];done)
 have hq6:gk.rules.again=(((M.chkW s).1).rules).again:=by first|(rw[hE];done)|(rw[hE];rfl)|(rw[hA];done)
 have hq7:gk.rules.capture=(((M.chkW s).1).rules).capture:=by first|(rw[hE];done)|(rw[hE];rfl)|(rw[hA];done)
 have hq8:gk.rules.slam=(((M.chkW s).1).rules).slam:=by first|(rw[hE];done)|(rw[hE];rfl)|(rw[hA];done)
 have hq9:gk.start.pits=(((M.chkW s).1).start).pits:=by first|(rw[hE];done)|(rw[hE];rfl)|(rw[hA];done)
 have hq10:gk.start.stores=(((M.chkW s).1).start).stores:=by first|(rw[hE];done)|(rw[hE];rfl)|(rw[hA];done)
 have hq11:gk.start.player=(((M.chkW s).1).start).player:=by first|(rw[hE];done)|(rw[hE];rfl)|(rw[hA];done)
 have hq12:gk.moves=((M.chkW s).1).moves:=by first|(rw[hE];done)|(rw[hE];rfl)|(rw[hA];done)
 have hq13:gk.now.pits=(((M.chkW s).1).now).pits:=by first|(rw[hE];done)|(rw[hE];rfl)|(rw[hA];done)
 have hq14:gk.now.stores=(((M.chkW s).1).now).stores:=by first|(rw[hE];done)|(rw[hE];rfl)|(rw[hA];done)
 have hq15:gk.now.player=(((M.chkW s).1).now).player:=by first|(rw[hE];done)|(rw[hE];rfl)|(rw[hA];done)
 have hq16:gk.resigned=((M.chkW s).1).resigned:=by first|(rw[hE];done)|(rw[hE];rfl)|(rw[hA];done)
 have hq17:0=M.atS s:=by first|(rw[hE];done)|(rw[hE];rfl)|(rw[hA];done)
 have hq18:0=(M.chkW s).2.2:=by first|(rw[hE];done)|(rw[hE];rfl)|(rw[hA];done)
 refine Js.skip<|zS<|Q9 0 rfl rfl ?_
 refine zw 7 rfl rfl rfl ?_
 refine Qa rfl<|Qa rfl<|JL.nil ?_
 exact zro x52
theorem zq119(s:List UInt8){w:World}(r0:s.length<=1048576:=by exact om_):RetV Tryz.prog 24 [.string (sB s)] w (.tuple #[.int .i64 ((M.chkC s).1),.int .i64 ((M.chkC s).2.1),.int .i64 ((M.chkC s).2.2)]):=by
 refine enter @Tryz.func24 @Tryz.ntmps24 rfl rfl ?_
 refine zent ?_
 refine zS<|Qa rfl<|Qa rfl<|Qa rfl<|zJ<|zS<|Qm rfl<|Qq (a0t und_9 rfl)<|Qg rfl rfl<|JL.nil ?_
 refine zi (λh1 h1'=>?_) λh1 h1'=>?_
 ·have hE:=M.chkC_5 (s:=s) (by have:=h1';omega)
  refine zS<|Qa rfl<|Qa rfl<|Qa rfl<|JL.nil ?_
  refine zR (Up.refl _ _) ?_
  first|(rw[hE];done)|(rw[hE];rfl)
 have hE:=M.b9h (s:=s) (by have:=h1';omega)
 have hco:=M.b1y s
 refine Js.skip<|zS<|Qm rfl<|zp rfl (λw hw=>zq66 s) ?_
 intro u2 x2 A3 c3 h3 bl3 bh3 A4 c4 h4 bl4 bh4 A5 c5 h5 bl5 bh5 A6 c6 h6 bl6 bh6 A7 c7 h7 bl7 bh7
 refine Qm rfl<|Qx rfl rfl<|Qx rfl rfl<|Qx rfl rfl<|za zeh λb8=>zw 0 rfl rfl rfl ?_
 refine Qa rfl<|Qa rfl<|zJ<|zS<|Qm rfl<|Qe rfl rfl<|JL.nil ?_
 refine zi (λh9 h9'=>?_) λh9 h9'=>?_
 ·have h0:(M.chkW s).2.2=0:=by simpa using h9
  have h1:(M.chkW s).2.1=-1:=by rcases hco with h9|h9;exact h9.1;exact absurd h0 h9.2.1
  rw[h0,h1] at hE
  refine zS<|Qa rfl<|Qa rfl<|Qa rfl<|JL.nil ?_
  refine zR x2 ?_
  first|(rw[hE];done)|(rw[hE];rfl)
 have h0:¬ (M.chkW s).2.2=0:=by simpa using h9
 have h1:M.atS s=(M.chkW s).2.1:=if_neg h0
 rw[<- h1] at hE
 refine Js.skip<|zS<|Qm rfl<|Qm rfl<|Qa rfl<|Qa rfl<|Qa rfl<|JL.nil ?_
 refine zR x2 ?_
 first|(rw[hE];done)|(rw[hE];rfl)
theorem zq120(s:List UInt8){w:World}(r0:s.length<=1048576:=by exact om_):Ret Tryz.prog 26 [.string (sB s)] w (Ty.tup [Ty.agg (cGame ((M.readG s).1)),Ty.bool ((M.readG s).2)]):=by
 refine enter @Tryz.func26 @Tryz.ntmps26 rfl rfl ?_
 refine zent ?_
 refine zS<|za zeh λb1=>Qa rfl<|zJ<|zS<|Qm rfl<|Qq (a0t und_9 rfl)<|Qg rfl rfl<|JL.nil ?_
 refine zi (λh2 h2'=>?_) λh2 h2'=>?_
 ·have hE:=M.b0a (s:=s) (by have:=h2';omega)
  have hq0:0=(((M.readG s).1).rules).pits:=rp_ hE
  have hq1:0=(((M.readG s).1).rules).seeds:=rp_ hE
  have hq2:false=(((M.readG s).1).rules).stores:=rp_ hE
  have hq3:false=(((M.readG s).1).rules).skip:=rp_ hE
  have hq4:false=(((M.readG s).1).rules).relay:=rp_ hE
  have hq5:false=(((M.readG s).1).rules).feed:=rp_ hE
  have hq6:false=(((M.readG s).1).rules).again:=rp_ hE
  have hq7:0=(((M.readG s).1).rules).capture:=rp_ hE
  have hq8:0=(((M.readG s).1).rules).slam:=rp_ hE
  have hq9:[]=(((M.readG s).1).start).pits:=rp_ hE
  have hq10:[]=(((M.readG s).1).start).stores:=rp_ hE
  have hq11:0=(((M.readG s).1).start).player:=rp_ hE
  have hq12:[]=((M.readG s).1).moves:=rp_ hE
  have hq13:[]=(((M.readG s).1).now).pits:=rp_ hE
  have hq14:[]=(((M.readG s).1).now).stores:=rp_ hE
  have hq15:0=(((M.readG s).1).now).player:=rp_ hE
  have hq16:0=((M.readG s).1).resigned:=rp_ hE
  have hq17:false=(M.readG s).2:=rp_ hE
  refine zS<|Qb ?_
  refine zw 0 rfl rfl rfl ?_
  refine Qa rfl<|JL.nil ?_
  exact zro (Up.refl _ _)
 have hs9:¬ 4000 < s.length:=by have:=h2';omega
 refine Js.skip<|zS<|Qm rfl<|zc rfl (λw hw=>zq66 s) ?_
 intro A5 c5 bl5 bh5 A6 c6 bl6 bh6 A7 c7 bl7 bh7 A8 c8 bl8 bh8 A9 c9 bl9 bh9
 refine Qm rfl<|Qx rfl rfl<|Qx rfl rfl<|Qx rfl rfl<|za zeh λb10=>zw 0 rfl rfl rfl ?_
 refine Qa rfl<|Qa rfl<|zJ<|zS<|Qm rfl<|Qd rfl rfl<|JL.nil ?_
 refine zi (λh11 h11'=>?_) λh11 h11'=>?_
 ·have hE:=M.a8a hs9 (by simpa using h11)
  have hq0:0=(((M.readG s).1).rules).pits:=rp_ hE
  have hq1:0=(((M.readG s).1).rules).seeds:=rp_ hE
  have hq2:false=(((M.readG s).1).rules).stores:=rp_ hE
  have hq3:false=(((M.readG s).1).rules).skip:=rp_ hE
  have hq4:false=(((M.readG s).1).rules).relay:=rp_ hE
  have hq5:false=(((M.readG s).1).rules).feed:=rp_ hE
  have hq6:false=(((M.readG s).1).rules).again:=rp_ hE
  have hq7:0=(((M.readG s).1).rules).capture:=rp_ hE
  have hq8:0=(((M.readG s).1).rules).slam:=rp_ hE
  have hq9:[]=(((M.readG s).1).start).pits:=rp_ hE
  have hq10:[]=(((M.readG s).1).start).stores:=rp_ hE
  have hq11:0=(((M.readG s).1).start).player:=rp_ hE
  have hq12:[]=((M.readG s).1).moves:=rp_ hE
  have hq13:[]=(((M.readG s).1).now).pits:=rp_ hE
  have hq14:[]=(((M.readG s).1).now).stores:=rp_ hE
  have hq15:0=(((M.readG s).1).now).player:=rp_ hE
  have hq16:0=((M.readG s).1).resigned:=rp_ hE
  have hq17:false=(M.readG s).2:=rp_ hE
  refine zS<|Qb ?_
  refine zw 6 rfl rfl rfl ?_
  refine Qa rfl<|JL.nil ?_
  exact zro (Up.refl _ _)
 have hE:=M.a8c hs9 (by simpa using h11)
 have hq0:((((M.chkW s).1).rules).pits)=(((M.readG s).1).rules).pits:=rp_ hE
 have hq1:((((M.chkW s).1).rules).seeds)=(((M.readG s).1).rules).seeds:=rp_ hE
 have hq2:((((M.chkW s).1).rules).stores)=(((M.readG s).1).rules).stores:=rp_ hE
 have hq3:((((M.chkW s).1).rules).skip)=(((M.readG s).1).rules).skip:=rp_ hE
 have hq4:((((M.chkW s).1).rules).relay)=(((M.readG s).1).rules).relay:=rp_ hE
 have hq5:((((M.chkW s).1).rules).feed)=(((M.readG s).1).rules).feed:=rp_ hE
 have hq6:((((M.chkW s).1).rules).again)=(((M.readG s).1).rules).again:=rp_ hE
 have hq7:((((M.chkW s).1).rules).capture)=(((M.readG s).1).rules).capture:=rp_ hE
 have hq8:((((M.chkW s).1).rules).slam)=(((M.readG s).1).rules).slam:=rp_ hE
 have hq9:((((M.chkW s).1).start).pits)=(((M.readG s).1).start).pits:=rp_ hE
 have hq10:((((M.chkW s).1).start).stores)=(((M.readG s).1).start).stores:=rp_ hE
 have hq11:((((M.chkW s).1).start).player)=(((M.readG s).1).start).player:=rp_ hE
 have hq12:(((M.chkW s).1).moves)=((M.readG s).1).moves:=rp_ hE
 have hq13:((((M.chkW s).1).now).pits)=(((M.readG s).1).now).pits:=rp_ hE
 have hq14:((((M.chkW s).1).now).stores)=(((M.readG s).1).now).stores:=rp_ hE
 have hq15:((((M.chkW s).1).now).player)=(((M.readG s).1).now).player:=rp_ hE
 have hq16:(((M.chkW s).1).resigned)=((M.readG s).1).resigned:=rp_ hE
 have hq17:true=(M.readG s).2:=rp_ hE
 refine Js.skip<|zS<|Q9 0 rfl rfl ?_
 refine zw 6 rfl rfl rfl ?_
 refine Qa rfl<|JL.nil ?_
 exact zro (Up.refl _ _)
theorem zq121(kind:Int){w:World}  : RetV Tryz.prog 36 [.int .i64 kind] w (.string (sB (M.faultName kind))):=by
 refine enter @Tryz.func36 @Tryz.ntmps36 rfl rfl ?_
 refine zent ?_
 refine zS<|Qa rfl<|zN<|Qq (q_bldA)<|za zeh λb1=>zw 0 rfl rfl rfl ?_
 refine zJ<|zS<|Qm rfl<|zv rfl (λw hw=>zq7 kind 1 7)<|Qt rfl<|JL.nil ?_
 refine zi (λh2 h2'=>?_) λh2 h2'=>?_
 ·have hE:=M.b5z (k:=kind) (by simpa using h2)
  refine zS<|Qa rfl<|JL.nil ?_
  refine zR (Up.refl _ _) ?_
  rw[hE];rfl
 have hb:M.betw kind 1 7=true:=by simpa using h2
 obtain⟨hb0,hb1⟩:=M.a0r.1 hb
 obtain⟨y3,hy3⟩:∃ x,([([114,117,108,101,115]:List UInt8),([115,116,97,114,116]:List UInt8),([102,111,114,109]:List UInt8),([110,117,109,98,101,114]:List UInt8),([109,111,118,101]:List UInt8),([103,97,105,110]:List UInt8),([101,110,100]:List UInt8)]:List (List UInt8))[(kind - 1).toNat]?=some x:=⟨_,List.getElem?_eq_getElem (by simp only[List.length_cons,List.length_nil];omega)⟩
 refine Js.skip<|zS<|Qm rfl<|Qs rfl rfl<|Qq (a2u (kk:=(kind - 1).toNat) ArrI.h rfl rfl (by omega) (by omega) (show 0 + ((kind - 1).toNat) * 1=(kind - 1).toNat by omega))<|Qw (a0c ty_9.h rfl (Mem.box (i:=0) rfl (txs_get (xs:=[([114,117,108,101,115]:List UInt8),([115,116,97,114,116]:List UInt8),([102,111,114,109]:List UInt8),([110,117,109,98,101,114]:List UInt8),([109,111,118,101]:List UInt8),([103,97,105,110]:List UInt8),([101,110,100]:List UInt8)]) hy3)))<|Qa rfl<|JL.nil ?_
 refine zR (Up.refl _ _) ?_
 rw[M.b2f hb hy3];rfl
theorem zq67(a:M.Gam){v_a:Value}(b:M.Gam){v_b:Value}{w:World}(h_a:(Ty.agg (cGame a)).ok w v_a)(h_b:(Ty.agg (cGame b)).ok w v_b)(r0:a.start.pits.length<=4194304:=by exact om_)(r1:a.start.stores.length<=4194304:=by exact om_)(r2:a.moves.length<=4194304:=by exact om_)(r3:a.now.pits.length<=4194304:=by exact om_)(r4:a.now.stores.length<=4194304:=by exact om_)(r5:b.start.pits.length<=4194304:=by exact om_)(r6:b.start.stores.length<=4194304:=by exact om_)(r7:b.moves.length<=4194304:=by exact om_)(r8:b.now.pits.length<=4194304:=by exact om_)(r9:b.now.stores.length<=4194304:=by exact om_):RetV Tryz.prog 35 [v_a,v_b] w (.bool (M.sameG a b)):=by
 revert v_a;apply opn
 intro A1 c1 h1 bl1 bh1 A2 c2 h2 bl2 bh2 A3 c3 h3 bl3 bh3 A4 c4 h4 bl4 bh4 A5 c5 h5 bl5 bh5
 revert v_b;apply opn
 intro A6 c6 h6 bl6 bh6 A7 c7 h7 bl7 bh7 A8 c8 h8 bl8 bh8 A9 c9 h9 bl9 bh9 A10 c10 h10 bl10 bh10
 refine enter @Tryz.func35 @Tryz.ntmps35 rfl rfl ?_
 refine zent ?_
 refine zS<|zb rfl λb11=>zb rfl λb12=>Qa rfl<|zN<|Qf fh rfl<|Q9 1 rfl rfl ?_
 refine Qf fh rfl<|Q9 0 rfl rfl ?_
 refine Qq (p_eqlS (by kernel_rfl) (λw=>eqs_Rules a.rules b.rules w) rfl rfl)<|Qm rfl<|zg (Gd.t1 rfl rfl rfl) (λhc=>a0b a2l.h rfl)<|zg (Gd.t1 rfl rfl rfl) (λhc=>a0b a2l.h rfl)<|zgv (Gd.t1 rfl rfl rfl) (λhc=>(a2d (gh hc rfl) (gh hc rfl))) (λhc=>(λw hw=>zq33 a.start b.start ⟨_,_,[.slice A1 a.start.pits.length c1,.slice A2 a.start.stores.length c2,.int .i64 a.start.player],rfl,⟨(ok_ hw),(ok_ hw),rfl,trivial⟩,Mem.boxR (i:=1) rfl 9 3 _ hw⟩ ⟨_,_,[.slice A6 b.start.pits.length c6,.slice A7 b.start.stores.length c7,.int .i64 b.start.player],rfl,⟨(ok_ hw),(ok_ hw),rfl,trivial⟩,Mem.boxR (i:=0) rfl 9 3 _ hw⟩ (r0:=(oh_ hc)) (r1:=(oh_ hc)) (r2:=(oh_ hc)) (r3:=(oh_ hc)))) ?_
 refine Qq (a0d rfl rfl rfl)<|Qm rfl<|zg (Gd.t1 rfl rfl rfl) (λhc=>a0b a0x.h rfl)<|zgq (Gd.t1 rfl rfl rfl) (λhc=>a0c ty_26.h (gh hc rfl) (Mem.box (i:=1) rfl rfl))<|zg (Gd.t1 rfl rfl rfl) (λhc=>a0b a0x.h rfl)<|zgq (Gd.t1 rfl rfl rfl) (λhc=>a0c ty_26.h (gh hc rfl) (Mem.box (i:=0) rfl rfl))<|zgv (Gd.t1 rfl rfl rfl) (λhc=>(a2d (gh hc rfl) (gh hc rfl))) (λhc=>(λw hw=>zq34 a.moves b.moves (ok_ hw) (ok_ hw) (r0:=(by have hc9:=hc;(try simp only[Bool.and_eq_true,decide_eq_true_eq] at hc9);omega)) (r1:=(by have hc9:=hc;(try simp only[Bool.and_eq_true,decide_eq_true_eq] at hc9);omega)))) ?_
 refine Qq (a0d rfl rfl rfl)<|Qm rfl<|zg (Gd.t1 rfl rfl rfl) (λhc=>a0b a1r.h rfl)<|zg (Gd.t1 rfl rfl rfl) (λhc=>a0b a1r.h rfl)<|zgv (Gd.t1 rfl rfl rfl) (λhc=>(a2d (gh hc rfl) (gh hc rfl))) (λhc=>(λw hw=>zq33 a.now b.now ⟨_,_,[.slice A4 a.now.pits.length c4,.slice A5 a.now.stores.length c5,.int .i64 a.now.player],rfl,⟨(ok_ hw),(ok_ hw),rfl,trivial⟩,Mem.boxR (i:=1) rfl 13 3 _ hw⟩ ⟨_,_,[.slice A9 b.now.pits.length c9,.slice A10 b.now.stores.length c10,.int .i64 b.now.player],rfl,⟨(ok_ hw),(ok_ hw),rfl,trivial⟩,Mem.boxR (i:=0) rfl 13 3 _ hw⟩ (r0:=(by have hc9:=hc;(try simp only[Bool.and_eq_true,decide_eq_true_eq] at hc9);omega)) (r1:=(by have hc9:=hc;(try simp only[Bool.and_eq_true,decide_eq_true_eq] at hc9);omega)) (r2:=(by have hc9:=hc;(try simp only[Bool.and_eq_true,decide_eq_true_eq] at hc9);omega)) (r3:=(by have hc9:=hc;(try simp only[Bool.and_eq_true,decide_eq_true_eq] at hc9);omega)))) ?_
 refine Qq (a0d rfl rfl rfl)<|Qm rfl<|zg (Gd.t1 rfl rfl rfl) (λhc=>a0b a4r.h rfl)<|zgq (Gd.t1 rfl rfl rfl) (λhc=>a0c ty_2.h (gh hc rfl) (Mem.box (i:=1) rfl rfl))<|zg (Gd.t1 rfl rfl rfl) (λhc=>a0b a4r.h rfl)<|zgq (Gd.t1 rfl rfl rfl) (λhc=>a0c ty_2.h (gh hc rfl) (Mem.box (i:=0) rfl rfl))<|zg (Gd.t1 rfl rfl rfl) (λhc=>p_eql (gh hc rfl) (gh hc rfl))<|Qq (a0d rfl rfl rfl)<|Qa rfl<|JL.nil ?_
 refine zR (Up.refl _ _) ?_
 simp[outV,M.sameG_eq,Bool.and_assoc]
theorem zq122(code:Nat){v_code:Value}{w:World}(h_code:(Ty.bytes 5 code).ok w v_code):RetV Tryz.prog 7 [v_code] w (.bool (decide (4096 < (code:Int)))):=by
 revert v_code;apply opn
 intro A1 c1 h1 bl1 bh1
 have h_code:=h1
 refine enter @Tryz.func7 @Tryz.ntmps7 rfl rfl ?_
 refine zent ?_
 refine zS<|Qa rfl<|zN<|Qm rfl<|Qz rfl<|Qg rfl rfl<|Qa rfl<|JL.nil ?_
 exact zr (Up.refl _ _)
theorem zq123(code:Nat){v_code:Value}{w:World}(h_code:(Ty.bytes 5 code).ok w v_code)(h_tab:tabT.ok w undef):RetV Tryz.prog 6 [v_code] w (.bool true):=by
 revert v_code;apply opn
 intro A1 c1 h1 bl1 bh1
 have h_code:=h1
 refine enter @Tryz.func6 @Tryz.ntmps6 rfl rfl ?_
 refine zent ?_
 refine zS<|Qa rfl<|zJ<|zS<|Qm rfl<|zv rfl (λw hw=>zq122 code (ok_ hw))<|JL.nil ?_
 refine zi (λh2 h2'=>?_) λh2 h2'=>?_
 ·refine zS<|Qa rfl<|JL.nil ?_
  refine zR (Up.refl _ _) ?_
  first|rfl|(rw[hC];simp[outV,hn9];done)|(rw[hC];simp[outV,hn9];omega)
 refine Js.skip<|zS<|Qm rfl<|zp rfl (λw hw=>zq96 code (ok_ hw)) ?_
 intro u3 x3 X4 hX4 A5 c5 h5 bl5 bh5 A6 c6 h6 bl6 bh6 A7 c7 h7 bl7 bh7 A8 c8 h8 bl8 bh8 A9 c9 h9 bl9 bh9
 obtain⟨e1_,e2_,e3_,e4_,e5_⟩:=(by assumption:X4.start.pits.length<=4194304/\X4.start.stores.length<=4194304/\X4.moves.length<=122/\X4.now.pits.length<=4194304/\X4.now.stores.length=2)
 obtain⟨r1_,r2_⟩:=M.rec_law X4
 have rl_:=M.recTR_le X4
 refine za zeh λb10=>zw 0 rfl rfl rfl ?_
 refine zN<|Q9 0 rfl rfl ?_
 refine zv rfl (λw hw=>zq101 X4 (ok_ hw) (ok_ hw))<|Qa rfl<|zN<|Qm rfl<|zp rfl (λw hw=>zq62 (M.recTR X4) (ok_ hw)) ?_
 intro u11 x11 A12 c12 h12 bl12 bh12 A13 c13 h13 bl13 bh13 A14 c14 h14 bl14 bh14 A15 c15 h15 bl15 bh15 A16 c16 h16 bl16 bh16
 refine Qm rfl<|Qx rfl rfl<|Qx rfl rfl<|za zeh λb17=>zw 0 rfl rfl rfl ?_
 refine Qa rfl<|zN<|Qm rfl<|zp rfl (λw hw=>zq95 code (ok_ hw)) ?_
 intro u18 x18 X19 hX19
 obtain⟨c1_,c2_⟩:=M.chk_law X19
 refine Qa rfl<|zN<|Qm rfl<|zv rfl (λw hw=>zq61 X19 (ok_ hw))<|Qm rfl<|Qx rfl rfl<|Qx rfl rfl<|Qx rfl rfl<|Qa rfl<|Qa rfl<|Qa rfl<|zN<|Qm rfl<|zv rfl (λw hw=>zq119 X19) ?_
 refine Qm rfl<|Qx rfl rfl<|Qx rfl rfl<|Qx rfl rfl<|Qa rfl<|Qa rfl<|Qa rfl<|zN<|Qm rfl<|zp rfl (λw hw=>zq62 X19 (ok_ hw)) ?_
 intro u20 x20 A21 c21 h21 bl21 bh21 A22 c22 h22 bl22 bh22 A23 c23 h23 bl23 bh23 A24 c24 h24 bl24 bh24 A25 c25 h25 bl25 bh25
 refine Qm rfl<|Qx rfl rfl<|Qx rfl rfl<|za zeh λb26=>zw 0 rfl rfl rfl ?_
 refine Qa rfl<|zN<|Qm rfl<|zp rfl (λw hw=>zq120 X19) ?_
 intro u27 x27 A28 c28 h28 bl28 bh28 A29 c29 h29 bl29 bh29 A30 c30 h30 bl30 bh30 A31 c31 h31 bl31 bh31 A32 c32 h32 bl32 bh32
 obtain⟨d1_,d2_,d3_,d4_,d5_⟩:=M.b0n (M.recTR X4)
 obtain⟨f1_,f2_,f3_,f4_,f5_⟩:=M.b0n X19
 refine Qm rfl<|Qx rfl rfl<|Qx rfl rfl<|za zeh λb33=>zw 0 rfl rfl rfl ?_
 refine Qa rfl<|zJ<|zS<|Qm rfl<|Q9 3 rfl rfl ?_
 refine zv rfl (λw hw=>zq124 X4 (ok_ hw))<|Qq (a2f und_9 rfl rfl)<|Qm rfl<|zg (Gd.f1 rfl rfl rfl) (λhc=>a0e rfl)<|zg (Gd.f1 rfl rfl rfl) (λhc=>a0e rfl)<|zg (Gd.f1 rfl rfl rfl) (λhc=>a2f und_9 (gh hc rfl) rfl)<|zg (Gd.f1 rfl rfl rfl) (λhc=>p_neqB und_4 (gh hc rfl) (gh hc rfl))<|Qq (a0j rfl rfl rfl)<|Qm rfl<|zg (Gd.f1 rfl rfl rfl) (λhc=>a0e rfl)<|zg (Gd.f1 rfl rfl rfl) (λhc=>a0e (gh hc rfl))<|zgq (Gd.t2 rfl rfl rfl) (λhc=>L9 2 rfl rfl)<|zgq (Gd.t2 rfl rfl rfl) (λhc=>L9 3 rfl rfl)<|zgv (Gd.t2 rfl rfl rfl) (λhc=>(a2d (gh hc rfl) (gh hc rfl))) (λhc=>(λw hw=>zq67 ((M.readG (M.recTR X4)).1) X4 (ok_ hw) (ok_ hw) (r0:=(by have hc9:=hc;(try simp only[Bool.and_eq_true,Bool.not_eq_true',Bool.or_eq_false_iff,Bool.not_eq_false',decide_eq_true_eq] at hc9);omega)) (r1:=(by have hc9:=hc;(try simp only[Bool.and_eq_true,Bool.not_eq_true',Bool.or_eq_false_iff,Bool.not_eq_false',decide_eq_true_eq] at hc9);omega)) (r2:=(by have hc9:=hc;(try simp only[Bool.and_eq_true,Bool.not_eq_true',Bool.or_eq_false_iff,Bool.not_eq_false',decide_eq_true_eq] at hc9);omega)) (r3:=(by have hc9:=hc;(try simp only[Bool.and_eq_true,Bool.not_eq_true',Bool.or_eq_false_iff,Bool.not_eq_false',decide_eq_true_eq] at hc9);omega)) (r4:=(by have hc9:=hc;(try simp only[Bool.and_eq_true,Bool.not_eq_true',Bool.or_eq_false_iff,Bool.not_eq_false',decide_eq_true_eq] at hc9);omega)) (r5:=(by have hc9:=hc;(try simp only[Bool.and_eq_true,Bool.not_eq_true',Bool.or_eq_false_iff,Bool.not_eq_false',decide_eq_true_eq] at hc9);omega)) (r6:=(by have hc9:=hc;(try simp only[Bool.and_eq_true,Bool.not_eq_true',Bool.or_eq_false_iff,Bool.not_eq_false',decide_eq_true_eq] at hc9);omega)) (r7:=(by have hc9:=hc;(try simp only[Bool.and_eq_true,Bool.not_eq_true',Bool.or_eq_false_iff,Bool.not_eq_false',decide_eq_true_eq] at hc9);omega)) (r8:=(by have hc9:=hc;(try simp only[Bool.and_eq_true,Bool.not_eq_true',Bool.or_eq_false_iff,Bool.not_eq_false',decide_eq_true_eq] at hc9);omega)) (r9:=(by have hc9:=hc;(try simp only[Bool.and_eq_true,Bool.not_eq_true',Bool.or_eq_false_iff,Bool.not_eq_false',decide_eq_true_eq] at hc9);omega)))) ?_
 refine zg (Gd.t2 rfl rfl rfl) (λhc=>p_not (gh hc rfl))<|zg (Gd.f1 rfl rfl rfl) (λhc=>a0d (gh hc rfl) (gvl rfl hc) rfl)<|Qq (a0j rfl rfl rfl)<|Qm rfl<|zg (Gd.f1 rfl rfl rfl) (λhc=>a0e rfl)<|zg (Gd.f1 rfl rfl rfl) (λhc=>a0e rfl)<|zg (Gd.f1 rfl rfl rfl) (λhc=>p_neq (gh hc rfl) (gh hc rfl))<|Qq (a0j rfl rfl rfl)<|Qm rfl<|zg (Gd.f1 rfl rfl rfl) (λhc=>a0e rfl)<|zg (Gd.f1 rfl rfl rfl) (λhc=>a0e rfl)<|zg (Gd.f1 rfl rfl rfl) (λhc=>p_neq (gh hc rfl) (gh hc rfl))<|Qq (a0j rfl rfl rfl)<|Qm rfl ?_
 refine zg (Gd.f1 rfl rfl rfl) (λhc=>a0e rfl)<|zg (Gd.f1 rfl rfl rfl) (λhc=>a0e rfl)<|zg (Gd.f1 rfl rfl rfl) (λhc=>p_neq (gh hc rfl) (gh hc rfl))<|Qq (a0j rfl rfl rfl)<|Qm rfl<|zg (Gd.f1 rfl rfl rfl) (λhc=>a0e rfl)<|zg (Gd.f1 rfl rfl rfl) (λhc=>a0e rfl)<|zg (Gd.f1 rfl rfl rfl) (λhc=>p_neqB und_4 (gh hc rfl) (gh hc rfl))<|Qq (a0j rfl rfl rfl)<|Qm rfl<|zgq (Gd.f1 rfl rfl rfl) (λhc=>L9 1 rfl rfl)<|zgq (Gd.f1 rfl rfl rfl) (λhc=>L9 0 rfl rfl)<|zgv (Gd.f1 rfl rfl rfl) (λhc=>(a2d (gh hc rfl) (gh hc rfl))) (λhc=>(λw hw=>zq67 ((M.readG X19).1) ((M.readG X19).1) (ok_ hw) (ok_ hw) (r0:=(by have hc9:=hc;(try simp only[Bool.not_eq_true',Bool.or_eq_false_iff,Bool.not_eq_false',decide_eq_true_eq,Bool.and_eq_false_iff] at hc9);omega)) (r1:=(by have hc9:=hc;(try simp only[Bool.not_eq_true',Bool.or_eq_false_iff,Bool.not_eq_false',decide_eq_true_eq,Bool.and_eq_false_iff] at hc9);omega)) (r2:=(by have hc9:=hc;(try simp only[Bool.not_eq_true',Bool.or_eq_false_iff,Bool.not_eq_false',decide_eq_true_eq,Bool.and_eq_false_iff] at hc9);omega)) (r3:=(by have hc9:=hc;(try simp only[Bool.not_eq_true',Bool.or_eq_false_iff,Bool.not_eq_false',decide_eq_true_eq,Bool.and_eq_false_iff] at hc9);omega)) (r4:=(by have hc9:=hc;(try simp only[Bool.not_eq_true',Bool.or_eq_false_iff,Bool.not_eq_false',decide_eq_true_eq,Bool.and_eq_false_iff] at hc9);omega)) (r5:=(by have hc9:=hc;(try simp only[Bool.not_eq_true',Bool.or_eq_false_iff,Bool.not_eq_false',decide_eq_true_eq,Bool.and_eq_false_iff] at hc9);omega)) (r6:=(by have hc9:=hc;(try simp only[Bool.not_eq_true',Bool.or_eq_false_iff,Bool.not_eq_false',decide_eq_true_eq,Bool.and_eq_false_iff] at hc9);omega)) (r7:=(by have hc9:=hc;(try simp only[Bool.not_eq_true',Bool.or_eq_false_iff,Bool.not_eq_false',decide_eq_true_eq,Bool.and_eq_false_iff] at hc9);omega)) (r8:=(by have hc9:=hc;(try simp only[Bool.not_eq_true',Bool.or_eq_false_iff,Bool.not_eq_false',decide_eq_true_eq,Bool.and_eq_false_iff] at hc9);omega)) (r9:=(by have hc9:=hc;(try simp only[Bool.not_eq_true',Bool.or_eq_false_iff,Bool.not_eq_false',decide_eq_true_eq,Bool.and_eq_false_iff] at hc9);omega)))) ?_
 refine zg (Gd.f1 rfl rfl rfl) (λhc=>p_not (gh hc rfl))<|Qq (a0j rfl rfl rfl)<|JL.nil ?_
 refine zi (λh34 h34'=>?_) λh34 h34'=>?_
 · have h9:=h34;exact absurd h9 (by cases h8:(M.readG (M.recTR X4)).2 <;> simp_all[M.sameG])
 refine Js.skip<|Js.seq<|zS<|Qm rfl<|Qm rfl<|Qe rfl rfl<|Qm rfl<|zg (Gd.t1 rfl rfl rfl) (λhc=>a0e rfl)<|zg (Gd.t1 rfl rfl rfl) (λhc=>p_eql (gh hc rfl) rfl)<|Qq (a0d rfl rfl rfl)<|Qq (p_neqB und_4 rfl rfl)<|Qm rfl<|zg (Gd.f1 rfl rfl rfl) (λhc=>a0e rfl)<|zg (Gd.f1 rfl rfl rfl) (λhc=>p_eql (gh hc rfl) rfl) ?_
 refine zg (Gd.f1 rfl rfl rfl) (λhc=>a0e (gh hc rfl))<|zg (Gd.t2 rfl rfl rfl) (λhc=>a0e rfl)<|zg (Gd.t2 rfl rfl rfl) (λhc=>p_geq (gh hc rfl) rfl)<|zg (Gd.f1 rfl rfl rfl) (λhc=>a0d (gh hc rfl) (gvl rfl hc) rfl)<|zg (Gd.f1 rfl rfl rfl) (λhc=>a0e (gh hc rfl))<|zg (Gd.t2 rfl rfl rfl) (λhc=>a0e rfl)<|zgv (Gd.t2 rfl rfl rfl) (λhc=>(opds_1 (gh hc rfl))) (λhc=>(λw hw=>zq121 ((M.chkC X19).2.1))) ?_
 refine zg (Gd.t2 rfl rfl rfl) (λhc=>a0w und_9 (gh hc rfl) rfl)<|zg (Gd.f1 rfl rfl rfl) (λhc=>a0d (gh hc rfl) (gvl rfl hc) rfl)<|Qq (a0j rfl rfl rfl)<|JL.nil ?_
 refine zi (λh35 h35'=>?_) λh35 h35'=>?_
 · have h9:=h35;exact absurd h9 (by simp_all)
 refine Js.skip<|Js.seq<|zS<|Qm rfl<|Qt rfl<|Qm rfl<|zg (Gd.f1 rfl rfl rfl) (λhc=>a0b a0x.h rfl)<|zgq (Gd.f1 rfl rfl rfl) (λhc=>a0c ty_26.h (gh hc rfl) (Mem.box (i:=3) rfl rfl))<|zg (Gd.f1 rfl rfl rfl) (λhc=>p_len el_26 (gh hc rfl))<|zg (Gd.f1 rfl rfl rfl) (λhc=>p_eql (gh hc rfl) rfl)<|Qq (a0j rfl rfl rfl)<|Qm rfl<|zg (Gd.f1 rfl rfl rfl) (λhc=>a0b a4r.h rfl)<|zgq (Gd.f1 rfl rfl rfl) (λhc=>a0c ty_2.h (gh hc rfl) (Mem.box (i:=3) rfl rfl)) ?_
 refine zg (Gd.f1 rfl rfl rfl) (λhc=>p_geq (gh hc rfl) rfl)<|Qq (a0j rfl rfl rfl)<|JL.nil ?_
 refine zi (λh36 h36'=>?_) λh36 h36'=>?_
 ·refine zS<|Qa rfl<|JL.nil ?_
  refine zR ((((x3.trans x11).trans x18).trans x20).trans x27) ?_
  first|rfl|(rw[hC];simp[outV,hn9];done)|(rw[hC];simp[outV,hn9];omega)
 have hq9:=h36
 obtain⟨hr_,hn_,hs_⟩:(M.readG (M.recTR X4)).2=true/\¬ X4.moves.length=0/\¬ 0<=X4.resigned:=by have h9:=hq9;simp at h9;exact⟨h9.1.1,by simpa using h9.1.2,by omega⟩
 obtain⟨_,hok⟩:=r2_ hr_
 obtain⟨n9,hn9⟩:∃ n,X4.moves.length=n + 1:=⟨X4.moves.length - 1,by omega⟩
 have hT:=M.a6o hok
 have hlt:1<=(M.recTR X4).length:=by rw[hT];exact List.length_pos_iff.2 M.recT_ne
 have ltk:((M.recTR X4).take ((((M.recTR X4).length:Int) - 1).toNat)).length<=3200:=by rw[List.length_take];omega
 have lbt:LenB ((M.recTR X4).take ((((M.recTR X4).length:Int) - 1).toNat)) 3200:=⟨ltk⟩
 have hW:((M.recTR X4).take ((((M.recTR X4).length:Int) - 1).toNat)++([48,10]:List UInt8))=M.wrongT X4:=by rw[hT];unfold M.wrongT;congr 2;omega
 have hC:=M.wrong_chk hok hn9 hs_
 rw[<- hW] at hC
 have hga:=M.c0h hok
 have hgl:=M.b4e hok
 rw[<- hga] at hgl
 have hoc:=M.okC_yes hok
 rw[<- hga] at hC
 refine Js.skip<|zS<|Qm rfl<|Qm rfl<|Qq (a0t und_9 rfl)<|Qs rfl rfl<|Qq (a4o (i:=(((M.recTR X4).length:Int) - 1).toNat) und_9 rfl (by rw[Int.toNat_of_nonneg (by omega)];exact rfl) (by omega))<|Qq (q_cat rfl rfl)<|Qa rfl<|zN<|Qm rfl<|zv rfl (λw hw=>zq61 (((M.recTR X4).take ((((M.recTR X4).length:Int) - 1).toNat))++([48,10]:List UInt8)) (ok_ hw))<|Qm rfl<|Qx rfl rfl ?_
 refine Qx rfl rfl<|Qx rfl rfl<|Qa rfl<|Qa rfl<|Qa rfl<|zN<|Q9 3 rfl rfl ?_
 refine zp rfl (λw hw=>zq125 X4 (ok_ hw)) ?_
 intro u37 x37 A38 c38 h38 bl38 bh38
 refine Qm rfl<|Qx rfl rfl<|Qx rfl rfl<|Qa rfl<|Qa rfl<|zJ<|zS<|Qm rfl<|Qd rfl rfl<|JL.nil ?_
 refine zi (λh39 h39'=>?_) λh39 h39'=>?_
 · exact absurd h39 (by simp[hoc])
 obtain⟨b40,o40,he40,hc40⟩:=a0l h38 (i:=((((M.gainsR X4).length):Int) - 1).toNat) (by omega)
 refine Js.skip<|zS<|Qm rfl<|Qm rfl<|Qz rfl<|Qs rfl rfl<|Qq (a0a el_26 rfl rfl (by omega) (by omega) he40)<|QC hc40 rfl<|Qa rfl<|zJ<|zS<|Qm rfl<|Qe rfl rfl<|JL.nil ?_
 refine zi (λh41 h41'=>?_) λh41 h41'=>?_
 ·have hg0:M.nth (M.gainsR X4) n9=0:=by have h9:=h41;rw[show n9=(M.gainsR X4).length - 1 by omega];simpa[M.getI] using h9
  rw[if_pos hg0] at hC
  refine zS<|Qm rfl<|Qe rfl rfl<|Qm rfl<|zg (Gd.t1 rfl rfl rfl) (λhc=>a0e rfl)<|zg (Gd.t1 rfl rfl rfl) (λhc=>a0b a0x.h rfl)<|zgq (Gd.t1 rfl rfl rfl) (λhc=>a0c ty_26.h (gh hc rfl) (Mem.box (i:=3) rfl rfl))<|zg (Gd.t1 rfl rfl rfl) (λhc=>p_len el_26 (gh hc rfl))<|zg (Gd.t1 rfl rfl rfl) (λhc=>p_add (gh hc rfl) rfl (IntWalk.i64_in _ (oh_ hc))) ?_
  refine zg (Gd.t1 rfl rfl rfl) (λhc=>p_eql (gh hc rfl) (gh hc rfl))<|Qq (a0d rfl rfl rfl)<|Qm rfl<|zg (Gd.t1 rfl rfl rfl) (λhc=>a0e rfl)<|zg (Gd.t1 rfl rfl rfl) (λhc=>p_eql (gh hc rfl) rfl)<|Qq (a0d rfl rfl rfl)<|Qa rfl<|JL.nil ?_
  refine zR (((((x3.trans x11).trans x18).trans x20).trans x27).trans x37) ?_
  first|rfl|(rw[hC];simp[outV,hn9];done)|(rw[hC];simp[outV,hn9];omega)
 have hg0:¬ M.nth (M.gainsR X4) n9=0:=by have h9:=h41;rw[show n9=(M.gainsR X4).length - 1 by omega];simpa[M.getI] using h9
 rw[if_neg hg0] at hC
 refine Js.skip<|zS<|Qm rfl<|Qe rfl rfl<|Qm rfl<|zg (Gd.t1 rfl rfl rfl) (λhc=>a0e rfl)<|zg (Gd.t1 rfl rfl rfl) (λhc=>a0b a0x.h rfl)<|zgq (Gd.t1 rfl rfl rfl) (λhc=>a0c ty_26.h (gh hc rfl) (Mem.box (i:=3) rfl rfl))<|zg (Gd.t1 rfl rfl rfl) (λhc=>p_len el_26 (gh hc rfl))<|zg (Gd.t1 rfl rfl rfl) (λhc=>p_add (gh hc rfl) rfl (IntWalk.i64_in _ (oh_ hc))) ?_
 refine zg (Gd.t1 rfl rfl rfl) (λhc=>p_eql (gh hc rfl) (gh hc rfl))<|Qq (a0d rfl rfl rfl)<|Qm rfl<|zg (Gd.t1 rfl rfl rfl) (λhc=>a0e rfl)<|zg (Gd.t1 rfl rfl rfl) (λhc=>p_eql (gh hc rfl) rfl)<|Qq (a0d rfl rfl rfl)<|Qa rfl<|JL.nil ?_
 refine zR (((((x3.trans x11).trans x18).trans x20).trans x27).trans x37) ?_
 first|rfl|(rw[hC];simp[outV,hn9];done)|(rw[hC];simp[outV,hn9];omega)
end Go.Proofs.YtjgohnaobbphpaaGreatDoor

/- Plain mathematics: records are read, line by line. -/
import Derived.Test.YtjgohnaobbphpaaGreatDoorZdA4
import Derived.Test.YtjgohnaobbphpaaGreatDoorZdA3
set_option linter.unusedSimpArgs false
set_option linter.unusedVariables false
namespace Go.Proofs.YtjgohnaobbphpaaGreatDoor.M
def rulesW:List UInt8:=[114,117,108,101,115]
def startW:List UInt8:=[115,116,97,114,116]
def res0:List UInt8:=[114,101,115,105,103,110,115,32,48]
def res1:List UInt8:=[114,101,115,105,103,110,115,32,49]
def aft(t w:List UInt8):List UInt8×Bool:=if ¬ t.length < w.length + 1/\t.take (w.length + 1)=w++[32] then(t.drop (w.length + 1),true) else([],false)
theorem aft_y{t w:List UInt8}(h1:¬ t.length < w.length + 1)(h2:t.take (w.length + 1)=w++[32]):aft t w=(t.drop (w.length + 1),true):=if_pos ⟨h1,h2⟩
theorem aft_n{t w:List UInt8}(h:¬ (¬ t.length < w.length + 1/\t.take (w.length + 1)=w++[32])):aft t w=([],false):=if_neg h
theorem b2l(t w:List UInt8):(aft t w).1.length<=t.length:=by
  unfold aft;split
  · simp
  · simp
theorem aft_eq{t w:List UInt8}(h:(aft t w).2=true):t=w++32::(aft t w).1:=by
  unfold aft at *
  split at h
  · rename_i hc
    rw[if_pos hc]
    conv=>lhs;rw[<- List.take_append_drop (w.length + 1) t,hc.2]
    simp
  · exact absurd h (by decide)
theorem aft_of{t w x:List UInt8}(h:t=w++32::x):aft t w=(x,true):=by
  subst h
  rw[aft_y (by simp) (by rw[show w++32::x=(w++[32])++x by simp,List.take_append_of_le_length (by simp)];exact List.take_of_length_le (by simp))]
  rw[show w++32::x=(w++[32])++x by simp,List.drop_append_of_le_length (by simp),List.drop_of_length_le (by simp)];rfl
theorem b0o{b:UInt8}{a r:List UInt8}(h:b ∉ a):cutS (a++b::r) [b]=(a,r,true):=by
  rw[a6v (k:=a.length) (by simp) (by simp) (λi hi he=>?_)]
  · simp
  · rw[List.drop_append_of_le_length (by omega)] at he
    have hm:(a.drop i++b::r)[0]?=some b:=by
      have:=congrArg (·[0]?) he
      simpa using this
    rw[List.getElem?_append_left (by rw[List.length_drop];omega),List.getElem?_drop] at hm
    exact h (List.mem_of_getElem? hm)
theorem cutS_none{s sep:List UInt8}(h:(cutS s sep).2.2=false):(cutS s sep).2.1=[]:=by
  unfold cutS at *;split at h
  · exact absurd h (by simp)
  · rfl
theorem b7z {α : Type} {t w : List UInt8} (f : List UInt8 → α × Bool) (hw : (32 : UInt8) ∉ w) (hf : (f []).2 = false) :
    (((cutS t [32]).1=w/\(f (cutS t [32]).2.1).2=true)↔((aft t w).2=true/\(f (aft t w).1).2=true))/\((aft t w).2=true->(cutS t [32]).2.1=(aft t w).1):=by
  have hy:(aft t w).2=true->cutS t [32]=(w,(aft t w).1,true):=λh=>by
    have:=aft_eq h
    generalize (aft t w).1=x at *
    rw[this];exact b0o hw
  refine⟨⟨fun ⟨h1,h2⟩=>?_,fun ⟨h1,h2⟩=>?_⟩,λh=>by rw[hy h]⟩
  · cases hc:(cutS t [32]).2.2 with
    | true =>
      have he:=b7d hc
      rw[h1] at he
      have he2:t=w++32::(cutS t [32]).2.1:=he.trans (by simp)
      rw[aft_of he2];exact⟨rfl,h2⟩
    | false=>rw[cutS_none hc,hf] at h2;exact absurd h2 (by decide)
  · rw[hy h1];exact⟨rfl,h2⟩
theorem readR_nil:(readR []).2=false:=by
  cases h:(readR []).2 with
  | false=>rfl
  | true =>
    have hc:¬ ((chkT []).2.1=[]):=by decide +kernel
    exact absurd (readR_one h).2.1 hc
theorem readP_nil(r:Rul):(readP r []).2=false:=by rw[a6k (by decide)]
def head0(g:Gam)(t:List UInt8):Gam×Int :=
  if (cutS t [32]).1=rulesW/\(readR (cutS t [32]).2.1).2=true then(⟨(readR (cutS t [32]).2.1).1,g.start,g.moves,g.now,g.resigned⟩,0) else(g,1)
def head1(g:Gam)(t:List UInt8):Gam×Int :=
  if (cutS t [32]).1=startW/\(readP g.rules (cutS t [32]).2.1).2=true then(freshG g.rules (readP g.rules (cutS t [32]).2.1).1,0) else(g,2)
def headI(g:Gam)(at_:Int)(t:List UInt8):Gam×Int:=if at_=0 then head0 g t else head1 g t
section
variable {g : Gam} {t : List UInt8} {at_ : Int}
theorem a8z(h:at_=0)(h1:(cutS t [32]).1=rulesW)(h2:(readR (cutS t [32]).2.1).2=true):headI g at_ t=(⟨(readR (cutS t [32]).2.1).1,g.start,g.moves,g.now,g.resigned⟩,0):=by unfold headI head0;rw[if_pos h,if_pos ⟨h1,h2⟩]
theorem b3k(h:at_=0)(h1:¬ ((cutS t [32]).1=rulesW/\(readR (cutS t [32]).2.1).2=true)):headI g at_ t=(g,1):=by unfold headI head0;rw[if_pos h,if_neg h1]
theorem a8u(h:¬ at_=0)(h1:(cutS t [32]).1=startW)(h2:(readP g.rules (cutS t [32]).2.1).2=true):headI g at_ t=(freshG g.rules (readP g.rules (cutS t [32]).2.1).1,0):=by unfold headI head1;rw[if_neg h,if_pos ⟨h1,h2⟩]
theorem b3l(h:¬ at_=0)(h1:¬ ((cutS t [32]).1=startW/\(readP g.rules (cutS t [32]).2.1).2=true)):headI g at_ t=(g,2):=by unfold headI head1;rw[if_neg h,if_neg h1]
end
def headS(l0 l1:List UInt8)(tw:Bool):Gam×Int×Int :=
  if ¬ ((aft l0 rulesW).2=true/\(readR (aft l0 rulesW).1).2=true) then(Gam.zero,0,1) else if tw=true then(Gam.zero,0,7) else
  if ¬ ((aft l1 startW).2=true/\(readP (readR (aft l0 rulesW).1).1 (aft l1 startW).1).2=true) then(Gam.zero,1,2) else(freshG (readR (aft l0 rulesW).1).1 (readP (readR (aft l0 rulesW).1).1 (aft l1 startW).1).1,0,0)
section
variable {l0 l1 : List UInt8} {tw : Bool}
theorem b6u(h:¬ ((aft l0 rulesW).2=true/\(readR (aft l0 rulesW).1).2=true)):headS l0 l1 tw=(Gam.zero,0,1):=if_pos h
theorem headS_7(h:(aft l0 rulesW).2=true/\(readR (aft l0 rulesW).1).2=true)(h2:tw=true):headS l0 l1 tw=(Gam.zero,0,7):=by unfold headS;rw[if_neg (λk=>k h),if_pos h2]
theorem headS_2(h:(aft l0 rulesW).2=true/\(readR (aft l0 rulesW).1).2=true)(h2:¬ tw=true)(h3:¬ ((aft l1 startW).2=true/\(readP (readR (aft l0 rulesW).1).1 (aft l1 startW).1).2=true)):headS l0 l1 tw=(Gam.zero,1,2):=by unfold headS;rw[if_neg (λk=>k h),if_neg h2,if_pos h3]
theorem headS_0(h:(aft l0 rulesW).2=true/\(readR (aft l0 rulesW).1).2=true)(h2:¬ tw=true)(h3:(aft l1 startW).2=true/\(readP (readR (aft l0 rulesW).1).1 (aft l1 startW).1).2=true):headS l0 l1 tw=(freshG (readR (aft l0 rulesW).1).1 (readP (readR (aft l0 rulesW).1).1 (aft l1 startW).1).1,0,0):=by unfold headS;rw[if_neg (λk=>k h),if_neg h2,if_neg (λk=>k h3)]
end
def nextR(g:Gam)(x:(Int×Int×Int)×Bool):Gam×Int :=
  if x.2=false then(Gam.zero,3) else if ¬ x.1.1=(g.moves.length:Int) + 1 then(Gam.zero,4) else if ¬ (play g x.1.2.1).2=0 then(Gam.zero,5) else
  if ¬ (make g.rules g.now x.1.2.1).1.gain=x.1.2.2 then(Gam.zero,6) else((play g x.1.2.1).1,0)
section
variable {g : Gam} {x : (Int × Int × Int) × Bool}
theorem b0q(h:x.2=false):nextR g x=(Gam.zero,3):=if_pos h
theorem nextR_4(h:x.2=true)(h1:¬ x.1.1=(g.moves.length:Int) + 1):nextR g x=(Gam.zero,4):=by unfold nextR;rw[if_neg (by simp[h]),if_pos h1]
theorem nextR_5(h:x.2=true)(h1:x.1.1=(g.moves.length:Int) + 1)(h2:¬ (play g x.1.2.1).2=0):nextR g x=(Gam.zero,5):=by unfold nextR;rw[if_neg (by simp[h]),if_neg (λk=>k h1),if_pos h2]
theorem b7a(h:x.2=true)(h1:x.1.1=(g.moves.length:Int) + 1)(h2:(play g x.1.2.1).2=0)(h3:¬ (make g.rules g.now x.1.2.1).1.gain=x.1.2.2):nextR g x=(Gam.zero,6):=by unfold nextR;rw[if_neg (by simp[h]),if_neg (λk=>k h1),if_neg (λk=>k h2),if_pos h3]
theorem b6k(h:x.2=true)(h1:x.1.1=(g.moves.length:Int) + 1)(h2:(play g x.1.2.1).2=0)(h3:(make g.rules g.now x.1.2.1).1.gain=x.1.2.2):nextR g x=((play g x.1.2.1).1,0):=by unfold nextR;rw[if_neg (by simp[h]),if_neg (λk=>k h1),if_neg (λk=>k h2),if_neg (λk=>k h3)]
theorem nextR_ok(hg:okG g=true)(h:(nextR g x).2=0):okG (nextR g x).1=true:=by
  unfold nextR at *
  split at h
  · exact absurd h (by decide)
  · rename_i c1;rw[if_neg c1]
    split at h
    · exact absurd h (by decide)
    · rename_i c2;rw[if_neg c2]
      split at h
      · exact absurd h (by decide)
      · rename_i c3;rw[if_neg c3]
        split at h
        · exact absurd h (by decide)
        · rename_i c4;rw[if_neg c4]
          exact b3p hg (by simpa using c3)
theorem nextR_law(g:Gam)(t:List UInt8):nextR g (numI t)=nextR g (numR t):=by
  obtain⟨h1,h2⟩:=b9z t
  by_cases h:(numI t).2=true
  · rw[h2 h]
  · have h:(numI t).2=false:=by simpa using h
    rw[b0q h,b0q (h1 ▸ h)]
end
def resG(g:Gam)(k:Int):Gam:=⟨g.rules,g.start,g.moves,g.now,k⟩
theorem a2j{g:Gam}{k:Int}(h:okG g=true)(h0 : -1<=k)(h1:k<=1):okG (resG g k)=true:=by
  unfold okG at *
  simp only[Bool.and_eq_true] at h ⊢
  exact⟨⟨⟨h.1.1.1,a0r.2 ⟨h0,h1⟩⟩,h.1.2⟩,h.2⟩
def lineI(g:Gam)(t:List UInt8):Gam×Int :=
  if 0<=g.resigned then(g,7) else if t=res0 then(resG g 0,0) else if t=res1 then(resG g 1,0) else
  if (nextR g (numR t)).2=0 then((nextR g (numR t)).1,0) else(g,(nextR g (numR t)).2)
section
variable {g : Gam} {t : List UInt8}
theorem b2p(h:0<=g.resigned):lineI g t=(g,7):=if_pos h
theorem a9e(h:¬ 0<=g.resigned)(h1:t=res0):lineI g t=(resG g 0,0):=by unfold lineI;rw[if_neg h,if_pos h1]
theorem a8x(h:¬ 0<=g.resigned)(h1:t=res1):lineI g t=(resG g 1,0):=by unfold lineI;rw[if_neg h,if_neg (by rw[h1];decide),if_pos h1]
theorem a9t(h:¬ 0<=g.resigned)(h0:¬ t=res0)(h1:¬ t=res1)(h2:(nextR g (numR t)).2=0):lineI g t=((nextR g (numR t)).1,0):=by unfold lineI;rw[if_neg h,if_neg h0,if_neg h1,if_pos h2]
theorem a4t(h:¬ 0<=g.resigned)(h0:¬ t=res0)(h1:¬ t=res1)(h2:¬ (nextR g (numR t)).2=0):lineI g t=(g,(nextR g (numR t)).2):=by unfold lineI;rw[if_neg h,if_neg h0,if_neg h1,if_neg h2]
theorem b9t(hg:okG g=true)(h:(lineI g t).2=0):okG (lineI g t).1=true:=by
  by_cases c:0<=g.resigned
  · rw[b2p c] at h;exact absurd h (show ¬ (7:Int)=0 by decide)
  by_cases c0:t=res0
  · rw[a9e c c0];exact a2j hg (by decide) (by decide)
  by_cases c1:t=res1
  · rw[a8x c c1];exact a2j hg (by decide) (by decide)
  by_cases c2:(nextR g (numR t)).2=0
  · rw[a9t c c0 c1 c2];exact nextR_ok hg c2
  · rw[a4t c c0 c1 c2] at h;exact absurd h c2
end
def base(l:List (List UInt8))(g:Gam)(k:Nat):Gam×Int :=
  if l.length<=k then(g,1 + (k:Int)) else if k < 2 then headI g k (l.getD k []) else lineI g (l.getD k [])
def flt(l:List (List UInt8))(e:Bool)(g:Gam)(k:Nat):Gam×Int :=
  if (base l g k).2=0/\k + 1=l.length/\e=false then((base l g k).1,7) else base l g k
def goN(l:List (List UInt8))(e:Bool):Nat->Nat->Gam->Gam×Int×Int
  | 0,_,g=>(g,-1,0)
  | n + 1,k,g=>if (flt l e g k).2=0 then goN l e n (k + 1) (flt l e g k).1 else(Gam.zero,(k:Int),(flt l e g k).2)
def chkW(s:List UInt8):Gam×Int×Int:=goN (recL s) (whole s) (max (recL s).length 2) 0 Gam.zero
theorem goN_one(l:List (List UInt8))(e:Bool):∀ n k g,((goN l e n k g).2.1=-1/\(goN l e n k g).2.2=0)\/(0<=(goN l e n k g).2.1/\(goN l e n k g).2.2≠0/\(goN l e n k g).1=Gam.zero)
  | 0,k,g=>.inl ⟨rfl,rfl⟩
  | n + 1,k,g=>by
    rw[goN];split
    · exact goN_one l e n _ _
    · rename_i h;exact .inr ⟨Int.natCast_nonneg _,h,rfl⟩
theorem b1y(s:List UInt8):((chkW s).2.1=-1/\(chkW s).2.2=0)\/(0<=(chkW s).2.1/\(chkW s).2.2≠0/\(chkW s).1=Gam.zero):=goN_one _ _ _ _ _
theorem b3o{l:List (List UInt8)}{g:Gam}{k:Nat}(h:l.length<=k):base l g k=(g,1 + (k:Int)):=if_pos h
theorem a8i{l:List (List UInt8)}{g:Gam}{k:Nat}{y:List UInt8}(h:l[k]?=some y)(h2:k < 2):base l g k=headI g k y:=by
  have:=(List.getElem?_eq_some_iff.1 h).1
  unfold base;rw[if_neg (by omega),if_pos h2,List.getD_eq_getElem?_getD,h];rfl
theorem a8q{l:List (List UInt8)}{g:Gam}{k:Nat}{y:List UInt8}(h:l[k]?=some y)(h2:¬ k < 2):base l g k=lineI g y:=by
  have:=(List.getElem?_eq_some_iff.1 h).1
  unfold base;rw[if_neg (by omega),if_neg h2,List.getD_eq_getElem?_getD,h];rfl
theorem flt_b{l:List (List UInt8)}{e:Bool}{g:Gam}{k:Nat}{b:Gam×Int}(hb:base l g k=b)(h:¬ (b.2=0/\k + 1=l.length/\e=false)):flt l e g k=b:=by unfold flt;rw[hb,if_neg h]
theorem flt_7{l:List (List UInt8)}{e:Bool}{g:Gam}{k:Nat}{b:Gam×Int}(hb:base l g k=b)(h:b.2=0/\k + 1=l.length/\e=false):flt l e g k=(b.1,7):=by unfold flt;rw[hb,if_pos h]
structure RecI (s:List UInt8) (k:Nat) (g:Gam):Prop where
  h:goN (recL s) (whole s) (max (recL s).length 2 - k) k g=chkW s
  z:k < 2->g.start=Pos.zero/\g.moves=[]/\g.now=Pos.zero/\g.resigned=0
  g:2<=k->okG g=true
theorem RecI.zero(s:List UInt8):RecI s 0 Gam.zero:=⟨rfl,λ_=>⟨rfl,rfl,rfl,rfl⟩,λh=>absurd h (by decide)⟩
theorem RecI.bd{s:List UInt8}{k:Nat}{g:Gam}(h:RecI s k g):g.start.pits.length<=100/\g.start.stores.length<=100/\g.now.pits.length<=100/\g.now.stores.length<=100/\g.moves.length<=120:=by
  by_cases hk:k < 2
  · obtain⟨a,b,c,_⟩:=h.z hk
    rw[a,b,c];exact⟨Nat.zero_le _,Nat.zero_le _,Nat.zero_le _,Nat.zero_le _,Nat.zero_le _⟩
  · have hg:=h.g (by omega)
    obtain⟨p1,p2,_⟩:=a0u hg
    obtain⟨a1,a2,a3,a4,_⟩:=a0y p1
    obtain⟨b1,b2,b3,b4,_⟩:=a0y (b2z hg)
    refine⟨?_, ?_, ?_, ?_,p2⟩ <;> omega
theorem RecI.step{s:List UInt8}{k:Nat}{g:Gam}{x:Gam×Int}(h:RecI s k g)(hk:k < max (recL s).length 2)(hx:flt (recL s) (whole s) g k=x)(h0:x.2=0):RecI s (k + 1) x.1:=by
  subst hx
  have hl:base (recL s) g k=flt (recL s) (whole s) g k:=by
    by_cases c:(base (recL s) g k).2=0/\k + 1=(recL s).length/\whole s=false
    · rw[flt_7 rfl c] at h0;exact absurd h0 (show ¬ (7:Int)=0 by decide)
    · exact(flt_b rfl c).symm
  have hlen:k < (recL s).length:=by
    by_cases c:(recL s).length<=k
    · rw[<- hl,b3o c] at h0;exact absurd h0 (by dsimp only;omega)
    · omega
  obtain⟨y,hy⟩:∃ y,(recL s)[k]?=some y:=⟨_,List.getElem?_eq_getElem hlen⟩
  refine⟨?_,λh2=>?_,λh2=>?_⟩
  · have:=h.h
    rw[show max (recL s).length 2 - k=(max (recL s).length 2 - (k + 1)) + 1 by omega,goN,if_pos h0] at this
    exact this
  · have e0:k=0:=by omega
    subst e0
    obtain⟨a,b,c,d⟩:=h.z (by decide)
    rw[<- hl,a8i hy (by decide)] at h0 ⊢
    by_cases hc:(cutS y [32]).1=rulesW/\(readR (cutS y [32]).2.1).2=true
    · rw[a8z (at_:=((0:Nat):Int)) rfl hc.1 hc.2];exact⟨a,b,c,d⟩
    · rw[b3k (at_:=((0:Nat):Int)) rfl hc];exact⟨a,b,c,d⟩
  · rw[<- hl] at h0 ⊢
    by_cases c:k < 2
    · have e1:k=1:=by omega
      subst e1
      rw[a8i hy (by decide)] at h0 ⊢
      by_cases hc:(cutS y [32]).1=startW/\(readP g.rules (cutS y [32]).2.1).2=true
      · rw[a8u (at_:=((1:Nat):Int)) (by decide) hc.1 hc.2];exact b3w (b3s hc.2).1
      · rw[b3l (at_:=((1:Nat):Int)) (by decide) hc] at h0;exact absurd h0 (show ¬ (2:Int)=0 by decide)
    · rw[a8q hy c] at h0 ⊢
      exact b9t (h.g (by omega)) h0
theorem RecI.bad{s:List UInt8}{k:Nat}{g:Gam}{x:Gam×Int}(h:RecI s k g)(hk:k < max (recL s).length 2)(hx:flt (recL s) (whole s) g k=x)(h0:¬ x.2=0):chkW s=(Gam.zero,(k:Int),x.2):=by
  subst hx
  have:=h.h
  rw[show max (recL s).length 2 - k=(max (recL s).length 2 - (k + 1)) + 1 by omega,goN,if_neg h0] at this
  exact this.symm
theorem RecI.done{s:List UInt8}{k:Nat}{g:Gam}(h:RecI s k g)(hk:max (recL s).length 2<=k):chkW s=(g,-1,0):=by
  have:=h.h
  rw[show max (recL s).length 2 - k=0 by omega,goN] at this
  exact this.symm
def recS(s:List UInt8):List (List UInt8):=if whole s=true/\¬ (split 10 s).length=1 then split 10 s else split 10 s++[[]]
theorem recS_y{s:List UInt8}(h:whole s=true)(h2:¬ (split 10 s).length=1):recS s=split 10 s:=if_pos ⟨h,h2⟩
theorem recS_n{s:List UInt8}(h:¬ (whole s=true/\¬ (split 10 s).length=1)):recS s=split 10 s++[[]]:=if_neg h
theorem c0m{s y:List UInt8}(h:(split 10 s)[(split 10 s).length - 1]?=some y):whole s=decide (y=[]):=by
  unfold whole;rw[List.getLast?_eq_getElem?,h];simp
theorem b1n{s:List UInt8}(h:whole s=true):split 10 s=(split 10 s).dropLast++[[]]:=by
  unfold whole at h
  have h:=of_decide_eq_true h
  obtain⟨l,hl⟩:=List.getLast?_eq_some_iff.1 h
  rw[hl];simp
theorem b4v{s:List UInt8}(h:whole s=true)(h1:(split 10 s).length=1):s=[]:=by
  have:=b1n h
  have hd:(split 10 s).dropLast=[]:=List.length_eq_zero_iff.1 (by rw[List.length_dropLast];omega)
  rw[hd] at this
  have hj:=a1e (b:=10) (s:=s)
  rw[this] at hj;simpa[joinW] using hj.symm
theorem recS_eq{s:List UInt8}(h:s≠[]):recS s=recL s++[[]]/\1<=(recL s).length:=by
  have hp:0 < (split 10 s).length:=List.length_pos_iff.2 (a4q 10 s)
  cases hw:whole s with
  | true =>
    have h1:¬ (split 10 s).length=1:=λe=>h (b4v hw e)
    unfold recL
    rw[recS_y hw h1,if_pos hw]
    exact⟨b1n hw,by rw[List.length_dropLast];omega⟩
  | false =>
    unfold recL
    rw[recS_n (by rw[hw];rintro⟨h9,_⟩;exact absurd h9 (by decide)),hw,if_neg (by decide)]
    exact⟨rfl,hp⟩
theorem b9o(s:List UInt8):2<=(recS s).length:=by
  by_cases h:s=[]
  · subst h;decide
  · obtain⟨a,b⟩:=recS_eq h
    rw[a,List.length_append];simp;omega
theorem b8j{s w:List UInt8}(h:w∈recS s):w.length<=s.length:=by
  unfold recS at h;split at h
  · exact a1f 10 s w h
  · rcases List.mem_append.1 h with h|h
    · exact a1f 10 s w h
    · simp at h;subst h;exact Nat.zero_le _
structure SpI (s:List UInt8) (k:Nat) (g:Gam):Prop where
  l:recS s=recL s++[[]]
  ok:okG g=true
  k2:2<=k
  kn:k<=(recL s).length
  go:k < (recL s).length\/whole s=true->RecI s k g
  en:k=(recL s).length->whole s=false->chkW s=(Gam.zero,(k:Int) - 1,7)
theorem SpI.get{s y:List UInt8}{k:Nat}{g:Gam}(h:SpI s k g)(hk:k < (recL s).length)(hy:(recS s)[k]?=some y):(recL s)[k]?=some y:=by
  rw[h.l,List.getElem?_append_left hk] at hy;exact hy
theorem SpI.bad{s y:List UInt8}{k:Nat}{g:Gam}{x:Gam×Int}(h:SpI s k g)(hk:k < (recL s).length)(hy:(recS s)[k]?=some y)(hx:lineI g y=x)(h0:¬ x.2=0):chkW s=(Gam.zero,(k:Int),x.2):=by
  have hb:=a8q (g:=g) (h.get hk hy) (by have:=h.k2;omega)
  rw[hx] at hb
  exact(h.go (.inl hk)).bad (by omega) (flt_b hb (λc=>h0 c.1)) h0
theorem SpI.step{s y:List UInt8}{k:Nat}{g:Gam}{x:Gam×Int}(h:SpI s k g)(hk:k < (recL s).length)(hy:(recS s)[k]?=some y)(hx:lineI g y=x)(h0:x.2=0):SpI s (k + 1) x.1:=by
  have hb:=a8q (g:=g) (h.get hk hy) (by have:=h.k2;omega)
  rw[hx] at hb
  have hg:okG x.1=true:=by rw[<- hx];exact b9t h.ok (by rw[hx];exact h0)
  have hk2:=h.k2
  by_cases c:k + 1=(recL s).length/\whole s=false
  · refine⟨h.l,hg,by omega,by omega,λh9=>?_,λ_ _=>?_⟩
    · rcases h9 with h9|h9
      · exact absurd c.1 (by omega)
      · rw[c.2] at h9;exact absurd h9 (by decide)
    · have:=(h.go (.inl hk)).bad (by omega) (flt_7 hb ⟨h0,c⟩) (show ¬ (7:Int)=0 by decide)
      rw[this];congr 2;omega
  · refine⟨h.l,hg,by omega,by omega,λ_=>?_,λh1 h2=>absurd ⟨h1,h2⟩ c⟩
    exact(h.go (.inl hk)).step (by omega) (flt_b hb (λd=>c d.2)) h0
theorem SpI.done{s:List UInt8}{k:Nat}{g:Gam}(h:SpI s k g)(hk:(recL s).length<=k)(hw:whole s=true):chkW s=(g,-1,0):=by
  have:=h.k2
  exact(h.go (.inr hw)).done (by omega)
theorem SpI.end_{s:List UInt8}{k:Nat}{g:Gam}(h:SpI s k g)(hk:(recL s).length<=k)(hw:whole s=false):chkW s=(Gam.zero,(k:Int) - 1,7):=h.en (by have:=h.kn;omega) hw
theorem aft_nil(w:List UInt8):aft [] w=([],false):=aft_n (λh=>h.1 (by simp))
theorem head_law2 {s l1 : List UInt8} {r0 : Rul} (hl : recS s = recL s ++ [[]]) (h1 : (recS s)[1]? = some l1) (hn : 1 ≤ (recL s).length) (R1 : RecI s 1 ⟨r0, Gam.zero.start, Gam.zero.moves, Gam.zero.now, Gam.zero.resigned⟩) (ct : ¬ ((recL s).length = 1 ∧ whole s = false)) :
    (¬ ((aft l1 startW).2=true/\(readP r0 (aft l1 startW).1).2=true)->chkW s=(Gam.zero,1,2))/\((aft l1 startW).2=true/\(readP r0 (aft l1 startW).1).2=true->SpI s 2 (freshG r0 (readP r0 (aft l1 startW).1).1)):=by
  obtain⟨g1,hg1⟩:∃ g:Gam,g=⟨r0,Gam.zero.start,Gam.zero.moves,Gam.zero.now,Gam.zero.resigned⟩:=⟨_,rfl⟩
  have hr:g1.rules=r0:=by rw[hg1]
  rw[<- hg1] at R1
  rw[<- hr]
  clear hg1 hr
  obtain⟨v1_,v2_⟩:=b7z (t:=l1) (w:=startW) (readP g1.rules) (by decide) (readP_nil _)
  have n2:¬ (2:Int)=0:=by decide
  have n7:¬ (7:Int)=0:=by decide
  by_cases c2:(recL s).length=1
  · have e1:l1=[]:=by rw[hl,List.getElem?_append_right (by omega),c2] at h1;simpa using h1.symm
    have b1:base (recL s) g1 1=(g1,2):=by rw[b3o (by omega)];rfl
    rw[e1,aft_nil]
    exact⟨λ_=>R1.bad (by omega) (flt_b b1 (λd=>n2 d.1)) n2,λh=>absurd h.1 (by decide)⟩
  · have g2:(recL s)[1]?=some l1:=by rw[hl,List.getElem?_append_left (by omega)] at h1;exact h1
    have b1:=a8i (g:=g1) g2 (by decide)
    refine⟨λc1=>?_,λc1=>?_⟩
    · rw[b3l (g:=g1) (at_:=((1:Nat):Int)) (by decide) (λd=>c1 (v1_.1 d))] at b1
      exact R1.bad (by omega) (flt_b b1 (λd=>n2 d.1)) n2
    · have d1:=v1_.2 c1
      have e1:=v2_ c1.1
      rw[a8u (g:=g1) (at_:=((1:Nat):Int)) (by decide) d1.1 d1.2,e1] at b1
      have hf:okG (freshG g1.rules (readP g1.rules (aft l1 startW).1).1)=true:=b3w (b3s c1.2).1
      by_cases c3:(recL s).length=2/\whole s=false
      · refine⟨hl,hf,Nat.le_refl _,by omega,λh9=>?_,λ_ _=>?_⟩
        · rcases h9 with h9|h9
          · omega
          · rw[c3.2] at h9;exact absurd h9 (by decide)
        · exact R1.bad (by omega) (flt_7 b1 ⟨rfl,by rw[c3.1],c3.2⟩) n7
      · refine⟨hl,hf,Nat.le_refl _,by omega,λ_=>?_,λh1 h2=>absurd ⟨h1.symm,h2⟩ c3⟩
        exact R1.step (by omega) (flt_b b1 (λd=>c3 ⟨by have:=d.2.1;omega,d.2.2⟩)) rfl
theorem c0c {s l0 l1 : List UInt8} {x : Gam × Int × Int} (h0 : (recS s)[0]? = some l0) (h1 : (recS s)[1]? = some l1) (hx : headS l0 l1 (decide ((recS s).length = 2) && !whole s) = x) :
    (¬ x.2.2=0->chkW s=(Gam.zero,x.2.1,x.2.2))/\(x.2.2=0->SpI s 2 x.1):=by
  have n1:¬ (1:Int)=0:=by decide
  have n2:¬ (2:Int)=0:=by decide
  have n7:¬ (7:Int)=0:=by decide
  by_cases hs:s=[]
  · subst hs
    have e0:l0=[]:=by
      have:recS []=[[],[]]:=by decide
      rw[this] at h0;simpa using h0.symm
    subst e0
    rw[b6u (by rw[aft_nil];rintro⟨h9,_⟩;exact absurd h9 (by decide))] at hx
    subst hx
    exact⟨λ_=>by decide +kernel,λh9=>absurd h9 n1⟩
  · obtain⟨hl,hn⟩:=recS_eq hs
    have hlen:(recS s).length=(recL s).length + 1:=by rw[hl];simp
    have g0:(recL s)[0]?=some l0:=by rw[hl,List.getElem?_append_left (by omega)] at h0;exact h0
    have R0:=RecI.zero s
    have b0:=a8i (g:=Gam.zero) g0 (by decide)
    obtain⟨w1_,w2_⟩:=b7z (t:=l0) (w:=rulesW) readR (by decide) readR_nil
    by_cases c0:(aft l0 rulesW).2=true/\(readR (aft l0 rulesW).1).2=true
    · have d0:=w1_.2 c0
      have e0:=w2_ c0.1
      rw[a8z (g:=Gam.zero) (at_:=((0:Nat):Int)) rfl d0.1 d0.2,e0] at b0
      by_cases ct:(recL s).length=1/\whole s=false
      · rw[headS_7 c0 (by rw[hlen,ct.1,ct.2];rfl)] at hx
        subst hx
        exact⟨λ_=>R0.bad (by omega) (flt_7 b0 ⟨rfl,by rw[ct.1],ct.2⟩) n7,λh9=>absurd h9 n7⟩
      · have htw : ¬ (decide ((recS s).length = 2) && !whole s) = true := by
          simp only[Bool.and_eq_true,decide_eq_true_eq,Bool.not_eq_true']
          rintro⟨a,b⟩;exact ct ⟨by omega,b⟩
        have R1:=R0.step (by omega) (flt_b b0 (λd=>ct ⟨by have:=d.2.1;omega,d.2.2⟩)) rfl
        obtain⟨q1_,q2_⟩:=head_law2 (r0:=(readR (aft l0 rulesW).1).1) hl h1 hn R1 ct
        by_cases c1:(aft l1 startW).2=true/\(readP (readR (aft l0 rulesW).1).1 (aft l1 startW).1).2=true
        · rw[headS_0 c0 htw c1] at hx
          subst hx
          exact⟨λh9=>absurd rfl h9,λ_=>q2_ c1⟩
        · rw[headS_2 c0 htw c1] at hx
          subst hx
          exact⟨λ_=>q1_ c1,λh9=>absurd h9 n2⟩
    · rw[b3k (g:=Gam.zero) (at_:=((0:Nat):Int)) rfl (λd=>c0 (w1_.1 d))] at b0
      rw[b6u c0] at hx
      subst hx
      exact⟨λ_=>R0.bad (by omega) (flt_b b0 (λd=>n1 d.1)) n1,λh9=>absurd h9 n1⟩
theorem b4l{g:Gam}(hg:okG g=true):g.start.pits.length<=100/\g.start.stores.length<=100/\g.now.pits.length<=100/\g.now.stores.length<=100/\g.moves.length<=120:=by
  obtain⟨p1,p2,_⟩:=a0u hg
  obtain⟨a1,a2,a3,a4,_⟩:=a0y p1
  obtain⟨b1,b2,b3,b4,_⟩:=a0y (b2z hg)
  refine⟨?_, ?_, ?_, ?_,p2⟩ <;> omega
theorem b8r(r:Rul)(s:List UInt8):(readP r s).1.pits.length<=100/\(readP r s).1.stores.length<=100:=by
  cases h:(readP r s).2 with
  | true =>
    obtain⟨a1,a2,a3,a4,_⟩:=a0y (b3s h).1
    constructor <;> omega
  | false=>rw[c0p h];exact⟨Nat.zero_le _,Nat.zero_le _⟩
def ln(l:List (List UInt8))(k:Nat):List UInt8:=l.getD k []
theorem b1e{l:List (List UInt8)}{k:Nat}{y:List UInt8}(h:l[k]?=some y):ln l k=y:=by unfold ln;rw[List.getD_eq_getElem?_getD,h];rfl
theorem numR_n{t:List UInt8}(h:¬ fmS t):numR t=((0,0,0),false):=if_neg h
theorem numR_y {t a b c d : List UInt8} (h2 : (split 32 t).length = 2) (h0 : (split 32 t)[0]? = some a) (h1 : (split 32 t)[1]? = some b) (hl : 2 ≤ a.length) (hd : a[a.length - 1]? = some 46) (v2 : (split 43 b).length = 2) (hv0 : (split 43 b)[0]? = some c) (hv1 : (split 43 b)[1]? = some d) :
    numR t=(((num (a.take (a.length - 1))).1,(num c).1,(num d).1),(num (a.take (a.length - 1))).2 && (num c).2 && (num d).2):=by
  have e0:w0 t=a:=by unfold w0;rw[List.getD_eq_getElem?_getD,h0];rfl
  have e1:w1 t=b:=by unfold w1;rw[List.getD_eq_getElem?_getD,h1];rfl
  have e2:v0 t=c:=by unfold v0;rw[e1,List.getD_eq_getElem?_getD,hv0];rfl
  have e3:v1 t=d:=by unfold v1;rw[e1,List.getD_eq_getElem?_getD,hv1];rfl
  have hf:fmS t:=⟨h2,by rw[e0];exact hl,by rw[e0];exact hd,by rw[e1];exact v2⟩
  unfold numR;rw[if_pos hf,e0,e2,e3]
theorem fmS_0{t a:List UInt8}(h0:(split 32 t)[0]?=some a)(hf:fmS t):2<=a.length/\a[a.length - 1]?=some 46:=by
  have e0:w0 t=a:=by unfold w0;rw[List.getD_eq_getElem?_getD,h0];rfl
  obtain⟨_,b,c,_⟩:=hf
  rw[e0] at b c;exact⟨b,c⟩
theorem fmS_1{t b:List UInt8}(h1:(split 32 t)[1]?=some b)(hf:fmS t):(split 43 b).length=2:=by
  have e1:w1 t=b:=by unfold w1;rw[List.getD_eq_getElem?_getD,h1];rfl
  obtain⟨_,_,_,d⟩:=hf
  rw[e1] at d;exact d
theorem bat_46{a:List UInt8}{k:Nat}(hk:k < a.length):bat a k=46↔a[k]?=some 46:=by
  rw[a7o hk,List.getElem?_eq_getElem hk]
  constructor
  · intro h
    have h2:a[k].toNat=46:=by omega
    rw[show a[k]=46 from UInt8.toNat_inj.1 h2]
  · intro h;rw[Option.some.inj h];rfl
def resW:List UInt8:=[114,101,115,105,103,110,115]
theorem b8g{g:Gam}{y:List UInt8}(hr:¬ 0<=g.resigned)(h:(aft y resW).2=true)(ht:(aft y resW).1=[48]\/(aft y resW).1=[49]):lineI g y=(resG g (num (aft y resW).1).1,0):=by
  have he:=aft_eq h
  rcases ht with e|e
  · rw[e] at he ⊢;rw[a9e hr he,show num [48]=(0,true) by decide +kernel]
  · rw[e] at he ⊢;rw[a8x hr he,show num [49]=(1,true) by decide +kernel]
theorem res_not{y:List UInt8}(h:¬ ((aft y resW).2=true/\((aft y resW).1=[48]\/(aft y resW).1=[49]))):¬ y=res0/\¬ y=res1:=by
  constructor
  · rintro rfl;exact h ⟨by decide,.inl (by decide)⟩
  · rintro rfl;exact h ⟨by decide,.inr (by decide)⟩
def atS(s:List UInt8):Int:=if (chkW s).2.2=0 then 0 else(chkW s).2.1
theorem atS_b{s:List UInt8}{a f:Int}(h:chkW s=(Gam.zero,a,f))(hf:¬ f=0):atS s=a:=by unfold atS;rw[h];exact if_neg hf
theorem atS_0{s:List UInt8}{g:Gam}(h:chkW s=(g,-1,0)):atS s=0:=by unfold atS;rw[h];rfl
def chkC(s:List UInt8):Int×Int×Int:=if 4000 < s.length then(0,0,5) else((chkW s).2.1,(chkW s).2.2,0)
def readG(s:List UInt8):Gam×Bool:=if 4000 < s.length then(Gam.zero,false) else if (chkW s).2.2=0 then((chkW s).1,true) else(Gam.zero,false)
theorem chkC_5{s:List UInt8}(h:4000 < s.length):chkC s=(0,0,5):=if_pos h
theorem b9h{s:List UInt8}(h:¬ 4000 < s.length):chkC s=((chkW s).2.1,(chkW s).2.2,0):=if_neg h
theorem b0a{s:List UInt8}(h:4000 < s.length):readG s=(Gam.zero,false):=if_pos h
theorem a8c{s:List UInt8}(h:¬ 4000 < s.length)(h2:(chkW s).2.2=0):readG s=((chkW s).1,true):=by unfold readG;rw[if_neg h,if_pos h2]
theorem a8a{s:List UInt8}(h:¬ 4000 < s.length)(h2:¬ (chkW s).2.2=0):readG s=(Gam.zero,false):=by unfold readG;rw[if_neg h,if_neg h2]
theorem chk_okG{s:List UInt8}:∀ (n k:Nat) (g:Gam),RecI s k g->max (recL s).length 2 - k=n->k<=max (recL s).length 2->(chkW s).2.2=0->okG (chkW s).1=true
  | 0,k,g,h,hn,hk,h0=>by
    rw[h.done (by omega)]
    exact h.g (by omega)
  | n + 1,k,g,h,hn,hk,h0=>by
    by_cases hx:(flt (recL s) (whole s) g k).2=0
    · exact chk_okG n (k + 1) _ (h.step (by omega) rfl hx) (by omega) (by omega) h0
    · rw[h.bad (by omega) rfl hx] at h0;exact absurd h0 hx
theorem chkW_ok{s:List UInt8}(h:(chkW s).2.2=0):okG (chkW s).1=true:=chk_okG _ 0 Gam.zero (RecI.zero s) rfl (Nat.zero_le _) h
theorem readG_ok{s:List UInt8}(h:(readG s).2=true):okG (readG s).1=true:=by
  by_cases h1:4000 < s.length
  · rw[b0a h1] at h;exact absurd h (by decide)
  · by_cases h2:(chkW s).2.2=0
    · rw[a8c h1 h2];exact chkW_ok h2
    · rw[a8a h1 h2] at h;exact absurd h (by decide)
theorem readG_no{s:List UInt8}(h:(readG s).2=false):(readG s).1=Gam.zero:=by
  by_cases h1:4000 < s.length
  · rw[b0a h1]
  · by_cases h2:(chkW s).2.2=0
    · rw[a8c h1 h2] at h;exact absurd h (show ¬ true=false by decide)
    · rw[a8a h1 h2]
theorem b0n(s:List UInt8):(readG s).1.start.pits.length<=100/\(readG s).1.start.stores.length<=100/\(readG s).1.moves.length<=120/\(readG s).1.now.pits.length<=100/\(readG s).1.now.stores.length<=100:=by
  cases h:(readG s).2 with
  | true=>obtain⟨a,b,c,d,e⟩:=b4l (readG_ok h);exact⟨a,b,e,c,d⟩
  | false=>rw[readG_no h];exact⟨Nat.zero_le _,Nat.zero_le _,Nat.zero_le _,Nat.zero_le _,Nat.zero_le _⟩
def Lo(xs:List Int)(k:Nat):Prop:=∀ i,i < k->0<=nth xs i/\nth xs i<=5
theorem Lo.zero(xs:List Int):Lo xs 0:=λ_ h=>absurd h (Nat.not_lt_zero _)
theorem b2j{xs:List Int}{k i:Nat}{v:Int}(hk:k < xs.length):nth (xs.set k v) i=if i=k then v else nth xs i:=by
  unfold nth
  rw[List.getD_eq_getElem?_getD,List.getD_eq_getElem?_getD,List.getElem?_set]
  by_cases h:k=i
  · subst h;rw[if_pos rfl,if_pos rfl,if_pos hk];rfl
  · rw[if_neg h,if_neg (λe=>h e.symm)]
theorem Lo.step{xs:List Int}{k:Nat}{v:Int}(h:Lo xs k)(hk:k < xs.length)(h0:0<=v)(h1:v<=5):Lo (xs.set k v) (k + 1):=λi hi=>by
  rw[b2j hk]
  by_cases e:i=k
  · rw[if_pos e];exact⟨h0,h1⟩
  · rw[if_neg e];exact h i (by omega)
theorem Lo.step2{xs:List Int}{k:Nat}{v:Int}(h:Lo xs k)(hk:k < xs.length):Lo ((xs.set k v).set k 0) (k + 1):=λi hi=>by
  rw[b2j (by rw[List.length_set];exact hk),b2j hk]
  by_cases e:i=k
  · rw[if_pos e];exact⟨by decide,by decide⟩
  · rw[if_neg e,if_neg e];exact h i (by omega)
theorem Lo.setI{xs:List Int}{n:Nat}{j:Int}(h:Lo xs n)(h0:0<=j)(h1:j < xs.length):Lo (setI xs j 0) n:=λi hi=>by
  unfold M.setI
  rw[b2j (by omega)]
  split
  · exact⟨by decide,by decide⟩
  · exact h i hi
theorem nth_cons0(a:Int)(l:List Int):nth (a::l) 0=a:=rfl
theorem nth_consS(a:Int)(l:List Int)(i:Nat):nth (a::l) (i + 1)=nth l i:=rfl
theorem Lo.all:∀ {xs:List Int},Lo xs xs.length->allOk xs=true/\0<=isum xs/\isum xs<=5 * xs.length
  | [],_=>⟨rfl,by decide,by decide⟩
  | a::l,h=>by
    have h0:=h 0 (by simp)
    rw[nth_cons0] at h0
    have hl:Lo l l.length:=λi hi=>by have:=h (i + 1) (by simp;omega);rwa [nth_consS] at this
    obtain⟨x1,x2,x3⟩:=hl.all
    refine⟨?_, ?_, ?_⟩
    · unfold allOk at *;rw[List.all_cons,x1,Bool.and_true]
      exact a0r.2 ⟨h0.1,by omega⟩
    · rw[a2v];omega
    · rw[a2v,List.length_cons];omega
theorem a2y{r:Rul}{ps:List Int}{a b pl:Int}(hr:okR r=true)(hl:ps.length=(2 * r.pits).toNat)(h:Lo ps ps.length)(ha0:0<=a)(ha:a<=7)(hb0:0<=b)(hb:b<=7)(hp:pl=0\/pl=1):okP r ⟨ps,[a,b],pl⟩=true:=by
  obtain⟨g1,g2,_⟩:=a6q hr
  obtain⟨x1,x2,x3⟩:=h.all
  have hi:isum [a,b]=a + b:=by rw[a2v,a2v];show a + (b + 0)=a + b;omega
  unfold okP
  simp only[Bool.and_eq_true,Bool.or_eq_true,decide_eq_true_eq]
  refine⟨⟨⟨⟨⟨⟨hr,by omega⟩,rfl⟩,hp⟩,x1⟩, ?_⟩,by rw[hi];omega⟩
  unfold allOk
  simp only[List.all_cons,List.all_nil,Bool.and_true,Bool.and_eq_true]
  exact⟨a0r.2 ⟨ha0,by omega⟩,a0r.2 ⟨hb0,by omega⟩⟩
theorem b8i{g:Gam}(h:okG g=true):(recT g).length<=10100:=by
  obtain⟨_,p2,_,p4,_⟩:=a0u h
  have hb:=a7a h p2
  have hd:=a1v g.resigned
  unfold recT;split
  · simp only[List.length_append,List.length_cons,List.length_nil];omega
  · omega
end Go.Proofs.YtjgohnaobbphpaaGreatDoor.M
namespace Go.Proofs.YtjgohnaobbphpaaGreatDoor
open Go.RowKit
section
variable {P : Program} {n : Nat} {l : Fr} {dst : Option Tmp} {ty : TypeId} {pos : String} {af : Array Edge} {gd : Option (Nat × Bool)}
theorem b0v(d:Nat){t e:TypeId}(hu:P.underlying t=some (.pointer e))(p:Option Addr)(w:World):(Op.equalIn (d + 1) t (.pointer p) (.pointer none)).run P w=.ok p.isNone w:=by
  cases p <;> simp[Op.equalIn,run_underlying hu]
theorem p_eqlP{x y:Operand}{t t' e:TypeId}{p:Option Addr}(hu:P.underlying t=some (.pointer e))(h1:opd l x=some (.pointer p))(h2:opd l y=some (.pointer none)):OpP P n l ⟨dst,.binOp .eql t x y t',ty,pos,af,gd⟩ (.bool p.isNone):=λa w ha=>by
  simp[execOp,eqGuard,binOp,ha.eval h1,ha.eval h2,Op.equal,Op.maxDepth,b0v 9999 hu]
theorem b7i{x y:Operand}{t t' e:TypeId}(hu:P.underlying t=some (.pointer e))(h1:opd l x=some (.pointer none))(h2:opd l y=some (.pointer none)):OpP P n l ⟨dst,.binOp .eql t x y t',ty,pos,af,gd⟩ (.bool true):=p_eqlP hu h1 h2
theorem b6f{x y:Operand}{t t' e:TypeId}{p:Addr}(hu:P.underlying t=some (.pointer e))(h1:opd l x=some (.pointer (some p)))(h2:opd l y=some (.pointer none)):OpP P n l ⟨dst,.binOp .eql t x y t',ty,pos,af,gd⟩ (.bool false):=p_eqlP hu h1 h2
end
section
variable {P : Program} {n lo : Nat} {B : List Nat} {Q : Exit → Act → World → Prop} {cs : List Code} {l : Fr} {os os' : List Own} {u : World}
theorem giveL (ks : List Nat) {w w₀ : World} {bs : List Own} {fr : List Own} {m : Nat} (hb : Bw w₀ bs) (x : Up w₀.heap.size (offW w₀ (bs.flatMap (·.fp))) u) (hp : PP os ks os') (hf : NL (os'.take m) fr)
    (hw:St w₀.heap.size (bs.flatMap (·.fp)) u w os):St w₀.heap.size (bs.flatMap (·.fp)) u w (fr++[anyO ((os'.drop m).flatMap (·.fp))]):=by
  have hpm:=hp.perm
  have e:os'=fr++os'.drop m:=by rw[<- hf.eq,List.take_append_drop]
  exact hw.conv (λo ho=>by
    rcases List.mem_append.1 ho with ho|ho
    · exact hw.prs o (hpm.mem_iff.2 (by rw[e];exact List.mem_append_left _ ho))
    · simp at ho;subst ho;trivial) (by
    have:=hpm.symm.flatMap_right (λo:Own=>o.fp)
    rw[e,List.flatMap_append] at this
    rw[List.flatMap_append]
    simpa[anyO] using this)
theorem zrbE (ks : List Nat) {fn : Func} {R : Value → List Own → Prop} {w₀ : World} {bs : List Own} {fr : List Own} {m : Nat} (hb : Bw w₀ bs) (x : Up w₀.heap.size (offW w₀ (bs.flatMap (·.fp))) u) (h : R (.tuple #[]) fr)
    (hr:fn.results=#[]:=by rfl) (hm:ks.length=m:=by rfl) (hp:PP os ks os':=by exact pp_) (hf:NL (os'.take m) fr:=by exact nl) :
    Js P n w₀.heap.size (bs.flatMap (·.fp)) (bodyPost P fn (RB w₀ bs R)) [] l os u:=Js.end_ λa w ha hw =>
  ⟨ha.dfr,.tuple #[],by unfold results;rw[hr];simp,_,fr,_,rfl,h,(giveL ks hb x hp hf hw).giveBack hb x⟩
end
end Go.Proofs.YtjgohnaobbphpaaGreatDoor
namespace Go.Proofs.YtjgohnaobbphpaaGreatDoor.M
def MvU(l:List Int)(k:Nat):Prop:=∀ i:Nat,i < k->betw (nth l i) 0 7=true
theorem MvU.zero(l:List Int):MvU l 0:=λi h=>absurd h (by omega)
theorem MvU.step{l:List Int}{k:Nat}(h:MvU l k)(hk:betw (nth l k) 0 7=true):MvU l (k + 1):=λi hi=>by
  rcases Nat.lt_succ_iff_lt_or_eq.1 hi with h9|h9
  · exact h i h9
  · subst h9;exact hk
theorem MvU.done{l:List Int}{k:Nat}(h:MvU l k)(hk:l.length<=k):l.all (betw · 0 7)=true:=List.all_eq_true.2 λx hx=>by
  obtain⟨i,hi⟩:=List.mem_iff_getElem?.1 hx
  have hil:=(List.getElem?_eq_some_iff.1 hi).1
  have:=h i (by omega)
  rw[show nth l i=x by simp[nth,List.getD,hi]] at this
  exact this
def faultNames:List (List UInt8):=[[114,117,108,101,115],[115,116,97,114,116],[102,111,114,109],[110,117,109,98,101,114],[109,111,118,101],[103,97,105,110],[101,110,100]]
def faultName(k:Int):List UInt8:=if betw k 1 7=true then faultNames.getD (k - 1).toNat [] else []
theorem b5z{k:Int}(h:betw k 1 7=false):faultName k=[]:=if_neg (by simp[h])
theorem b2f{k:Int}{y:List UInt8}(h:betw k 1 7=true)(hy:faultNames[(k - 1).toNat]?=some y):faultName k=y:=by unfold faultName;rw[if_pos h,List.getD,hy];rfl
theorem bat_app{a b:List UInt8}{k:Nat}(h:k < a.length):bat (a++b) k=bat a k:=by
  unfold bat;rw[List.getD_eq_getElem?_getD,List.getD_eq_getElem?_getD,List.getElem?_append_left h]
theorem bat_end(a:List UInt8)(c:UInt8):bat (a++[c]) a.length=(c.toNat:Int):=by
  unfold bat;rw[List.getD_eq_getElem?_getD,List.getElem?_append_right (Nat.le_refl _)];simp
theorem b8q{a b:List UInt8}:∀ {k:Nat},k<=a.length->numN (a++b) k=numN a k
  | 0,_=>rfl
  | k + 1,h=>by rw[numN,numN,b8q (by omega),bat_app (by omega)]
theorem dgt{n:Nat}(h:n < 10):(UInt8.ofNat (48 + n)).toNat=48 + n:=by
  rw[UInt8.toNat_ofNat',Nat.mod_eq_of_lt (by omega)]
theorem b8v{n:Nat}(h:¬ n < 10):Lib.decDigits n=Lib.decDigits (n / 10)++[UInt8.ofNat (48 + n % 10)]:=by rw[Lib.decDigits,dif_neg h]
theorem dd_num:∀ n:Nat,numN (Lib.decDigits n) (Lib.decDigits n).length=(n:Int)/\Digs (Lib.decDigits n) (Lib.decDigits n).length/\1<=(Lib.decDigits n).length:=by
  intro n
  induction n using Nat.strongRecOn with
  | _ n ih =>
    by_cases h:n < 10
    · rw[Lib.decDigits_one h]
      have hb:bat [UInt8.ofNat (48 + n)] 0=((48 + n:Nat):Int):=by
        have h9:=dgt h
        unfold bat;show(((UInt8.ofNat (48 + n)).toNat:Nat):Int)=_;rw[h9]
      refine⟨?_,λi hi=>?_,by simp⟩
      · show numN [UInt8.ofNat (48 + n)] (0 + 1)=_
        rw[numN,hb,numN];omega
      · have:i=0:=by simp at hi;exact hi
        subst this
        rw[hb];unfold isDig;simp;omega
    · obtain⟨a,b,c⟩:=ih (n / 10) (by omega)
      rw[b8v h]
      have hl:(Lib.decDigits (n / 10)++[UInt8.ofNat (48 + n % 10)]).length=(Lib.decDigits (n / 10)).length + 1:=by simp
      have hd:=dgt (Nat.mod_lt n (by decide:10 > 0))
      have he:=bat_end (Lib.decDigits (n / 10)) (UInt8.ofNat (48 + n % 10))
      rw[hd] at he
      rw[hl]
      refine⟨?_,λi hi=>?_,by omega⟩
      · rw[numN,b8q (Nat.le_refl _),a,he];omega
      · by_cases e:i=(Lib.decDigits (n / 10)).length
        · rw[e,he];unfold isDig;simp;omega
        · rw[bat_app (by omega)];exact b i (by omega)
theorem dd_3{n:Nat}(h:n < 1000):(Lib.decDigits n).length<=3:=by
  by_cases h1:n < 10
  · rw[Lib.decDigits_one h1];simp
  · rw[b8v h1,List.length_append]
    by_cases h2:n / 10 < 10
    · rw[Lib.decDigits_one h2];simp
    · rw[Lib.decDigits_two h2 (by omega)];simp
theorem a4s{n:Int}(h0 : -1000 < n)(h1:n < 1000):num (dec n)=(n,true):=by
  have hd:dec n=Lib.itoa n:=a4v (by omega) (by omega)
  by_cases hn:n < 0
  · obtain⟨a,b,c⟩:=dd_num n.natAbs
    have hl:=dd_3 (n:=n.natAbs) (by omega)
    have hs:dec n=45::Lib.decDigits n.natAbs:=by rw[hd];unfold Lib.itoa;rw[if_pos hn]
    have ht:numT (dec n)=Lib.decDigits n.natAbs:=by rw[numT_y (by rw[hs];simp) (by rw[hs];rfl),hs];rfl
    have hS:numS (dec n)=n:=by
      unfold numS;rw[ht,a,if_pos (by rw[hs];simp)];omega
    rw[a3m (by rw[ht];omega) (by rw[ht];exact a5s b (Nat.le_refl _)) (by rw[hS]),hS]
  · obtain⟨a,b,c⟩:=dd_num n.toNat
    have hl:=dd_3 (n:=n.toNat) (by omega)
    have hs:dec n=Lib.decDigits n.toNat:=by rw[hd];unfold Lib.itoa;rw[if_neg hn]
    have hb0:=b1g (b 0 (by omega))
    have ht:numT (dec n)=Lib.decDigits n.toNat:=by rw[hs];exact numT_n (λh9=>by have:=h9.2;omega)
    have hS:numS (dec n)=n:=by
      unfold numS;rw[ht,a,if_neg (by rw[hs];omega)];omega
    rw[a3m (by rw[ht];omega) (by rw[ht];exact a5s b (Nat.le_refl _)) (by rw[hS]),hS]
theorem dec_00:(num (dec 0++[48])).2=false:=by
  have:dec 0=[48]:=by rw[a4v (by decide) (by decide),show Lib.itoa 0=Lib.decDigits 0 from rfl,Lib.decDigits_one (by decide)];rfl
  rw[this];decide +kernel
theorem dec_10{n:Int}(h0 : -1000 < n)(h1:n < 1000)(hn:n≠0):dec n++[48]=dec (10 * n):=by
  rw[a4v (by omega) (by omega),a4v (by omega) (by omega)]
  unfold Lib.itoa
  by_cases h:n < 0
  · rw[if_pos h,if_pos (by omega),b8v (n:=(10 * n).natAbs) (by omega),show(10 * n).natAbs / 10=n.natAbs by omega,show(10 * n).natAbs % 10=0 by omega];rfl
  · rw[if_neg h,if_neg (by omega),b8v (n:=(10 * n).toNat) (by omega),show(10 * n).toNat / 10=n.toNat by omega,show(10 * n).toNat % 10=0 by omega];rfl
def endL(l:List (List UInt8)):List UInt8:=l.flatMap (·++[10])
theorem endL_cons(x:List UInt8)(l:List (List UInt8)):endL (x::l)=x++10::endL l:=by simp[endL]
theorem a9f(a b:List (List UInt8)):endL (a++b)=endL a++endL b:=by simp[endL]
theorem b6c:∀ {l:List (List UInt8)},(∀ x∈l,(10:UInt8) ∉ x)->split 10 (endL l)=l++[[]]
  | [],_=>rfl
  | x::l,h=>by
    rw[endL_cons,a1n 10 _ _ (h x (by simp)),b6c (λy hy=>h y (by simp[hy]))];rfl
theorem b8p{l:List (List UInt8)}(h:∀ x∈l,(10:UInt8) ∉ x):recL (endL l)=l/\whole (endL l)=true:=by
  have hs:=b6c h
  have hw:whole (endL l)=true:=by unfold whole;rw[hs];simp
  refine⟨?_,hw⟩
  unfold recL;rw[if_pos hw,hs];simp
def mvL(g:Gam)(k:Nat):List UInt8:=recLine ((k:Int) + 1) (nth g.moves k) (nth (recGs g) k)
def hdL(g:Gam):List (List UInt8):=[rulesW++32::rulesT g.rules,startW++32::posText g.start]
def lnL(g:Gam)(k:Nat):List (List UInt8):=hdL g++(List.range k).map (mvL g)
def enL(g:Gam):List (List UInt8):=if 0<=g.resigned then [resW++32::dec g.resigned] else []
theorem b1f(g:Gam):∀ k,recB g k=endL (lnL g k)
  | 0=>by
    show recN (recBase g) g.moves (recGs g) 0=_
    simp[recN,recBase,lnL,hdL,endL,rulesW,startW]
  | k + 1=>by
    have ih:=b1f g k
    show(recB g k++recLine ((k:Int) + 1) (nth g.moves k) (nth (recGs g) k))++[10]=_
    rw[ih]
    unfold lnL
    rw[List.range_succ,List.map_append,<- List.append_assoc,a9f (hdL g++(List.range k).map (mvL g))]
    simp[endL,mvL]
theorem a7y(g:Gam):recT g=endL (lnL g g.moves.length++enL g):=by
  rw[a9f,<- b1f]
  unfold recT enL;split
  · simp[endL,resW]
  · simp[endL]
theorem c0v(k:Int):(10:UInt8) ∉ capName k:=by unfold capName;(repeat' split) <;> decide
theorem b6x(k:Int):(10:UInt8) ∉ slamName k:=by unfold slamName;(repeat' split) <;> decide
theorem fName_10(k:Nat):(10:UInt8) ∉ fNames.getD k []:=by
  have h:∀ x∈fNames,(10:UInt8) ∉ x:=by decide
  by_cases hk:k < fNames.length
  · have hm:fNames.getD k []∈fNames:=by rw[List.getD_eq_getElem?_getD,List.getElem?_eq_getElem hk];exact List.getElem_mem hk
    exact h _ hm
  · rw[List.getD_eq_getElem?_getD,List.getElem?_eq_none (by omega)];simp
theorem b4s(r:Rul):∀ k,(10:UInt8) ∉ rulesN r k
  | 0=>by
    have a:=a3z (n:=r.pits) (c:=10) (by simp);have b:=a3z (n:=r.seeds) (c:=10) (by simp)
    have c:=c0v r.capture;have d:=b6x r.slam
    rw[rulesN];simp[a,b,c,d]
  | k + 1=>by
    have h:=b4s r k;have h2:=fName_10 k
    rw[rulesN];split
    · simp only[List.mem_append,not_or];exact⟨h,by decide,h2⟩
    · exact h
theorem rulesT_10(r:Rul):(10:UInt8) ∉ rulesT r:=b4s r 5
theorem b2n(l:List Int):(10:UInt8) ∉ joinT l:=λh=>by
  rcases b3z h with h|h
  · exact absurd h (by decide)
  · rcases h with h|⟨h1,h2⟩
    · exact absurd h (by decide)
    · exact absurd h1 (by decide)
theorem c0l(p:Pos):(10:UInt8) ∉ posText p:=by
  have a:=a3z (n:=p.player) (c:=10) (by simp)
  have b:=b2n (p.pits.take (p.pits.length / 2));have c:=b2n (p.pits.drop (p.pits.length / 2));have d:=b2n p.stores
  unfold posText
  simp[a,b,c,d]
theorem b1v(n m g:Int):(10:UInt8) ∉ recLine n m g:=by
  have a:=a3z (n:=n) (c:=10) (by simp);have b:=a3z (n:=m) (c:=10) (by simp);have c:=a3z (n:=g) (c:=10) (by simp)
  unfold recLine;simp[a,b,c]
theorem lnL_10(g:Gam)(k:Nat):∀ x∈lnL g k,(10:UInt8) ∉ x:=λx hx=>by
  unfold lnL hdL at hx
  simp only[List.cons_append,List.nil_append,List.mem_cons,List.mem_map] at hx
  rcases hx with rfl|rfl|⟨i,_,rfl⟩
  · simp only[List.mem_append,List.mem_cons,not_or];exact⟨by decide,by decide,rulesT_10 _⟩
  · simp only[List.mem_append,List.mem_cons,not_or];exact⟨by decide,by decide,c0l _⟩
  · exact b1v _ _ _
theorem enL_10(g:Gam):∀ x∈enL g,(10:UInt8) ∉ x:=λx hx=>by
  unfold enL at hx;split at hx
  · simp only[List.mem_cons,List.not_mem_nil,or_false] at hx
    subst hx
    simp only[List.mem_append,List.mem_cons,not_or];exact⟨by decide,by decide,a3z (by simp)⟩
  · simp at hx
theorem a5y(g:Gam)(k:Nat):(lnL g k).length=k + 2:=by unfold lnL hdL;simp
theorem lnL_0(g:Gam)(k:Nat)(t:List (List UInt8)):(lnL g k++t)[0]?=some (rulesW++32::rulesT g.rules):=by unfold lnL hdL;simp
theorem lnL_1(g:Gam)(k:Nat)(t:List (List UInt8)):(lnL g k++t)[1]?=some (startW++32::posText g.start):=by unfold lnL hdL;simp
theorem lnL_k{g:Gam}{n k:Nat}(t:List (List UInt8))(h:k < n):(lnL g n++t)[k + 2]?=some (mvL g k):=by
  unfold lnL hdL
  rw[List.append_assoc]
  show((List.range n).map (mvL g)++t)[k]?=_
  rw[List.getElem?_append_left (by simp;exact h)]
  simp[h]
theorem lnL_t(g:Gam)(n:Nat)(x:List UInt8)(t:List (List UInt8)):(lnL g n++x::t)[n + 2]?=some x:=by
  rw[List.getElem?_append_right (by rw[a5y];omega),a5y];simp
theorem mv_nums{n m g:Int}(h0 : -1000 < n)(h1:n < 1000)(h2 : -1000 < m)(h3:m < 1000)(h4 : -1000 < g)(h5:g < 1000):numR (recLine n m g)=((n,m,g),true):=by
  have a:=a4s h0 h1;have b:=a4s h2 h3;have c:=a4s h4 h5
  have hn:Nums (recLine n m g) (dec n) (dec m) (dec g):=⟨by simp[recLine],by rw[a],by rw[b],by rw[c]⟩
  rw[hn.s,a,b,c]
theorem mv_not{n m g:Int}:¬ recLine n m g=res0/\¬ recLine n m g=res1:=by
  have hd:∀ b∈dec n,decB b:=λb hb=>dec_B hb
  constructor
  all_goals
    intro h
    have e:dec n++(46::32::(dec m++43::dec g))=_:=(by simp[recLine]:_=recLine n m g).trans h
    cases hn:dec n with
    | nil=>rw[hn] at e;simp[res0,res1] at e
    | cons b l =>
      rw[hn] at e hd
      have hb:=hd b (by simp)
      simp[res0,res1] at e
      rw[e.1] at hb
      rcases hb with h|⟨h1,h2⟩
      · exact absurd h (by decide)
      · exact absurd h2 (by decide)
theorem runs_at{r:Rul}:∀ (a:List Int) (p:Pos) (n:Nat),(runs r p a).length=a.length->n < a.length->∀ q,(hist p (runs r p a))[n]?=some q->(runs r p a)[n]?=some (make r q (nth a n)).1
  | [],p,n,_,h,_,_=>by simp at h
  | m::ms,p,n,hl,hn,q,hq=>by
    by_cases hz:(make r p m).2=0
    · rw[runs,if_pos hz] at hl hq ⊢
      cases n with
      | zero=>simp[hist] at hq;subst hq;simp[nth]
      | succ n =>
        have h1:=runs_at ms (make r p m).1.next n (by simpa using hl) (by simpa using hn) q (by simpa[hist] using hq)
        simpa[nth] using h1
    · rw[runs,if_neg hz] at hl;simp at hl
theorem b9p{g:Gam}(h:okG g=true){n:Nat}(hn:n < g.moves.length):(make (cutG g n).rules (cutG g n).now (nth g.moves n)).1.gain=nth (recGs g) n:=by
  obtain⟨k1,k2,k3,k4,k5,k6,k7,k8,k9⟩:=a0u h
  have hg:=b6n h (Nat.le_of_lt hn)
  rw[k6] at hg
  exact(b4t (runs_at _ _ _ k8 hn _ hg)).symm
theorem b1o(r:Rul):∀ k,1<=(rulesN r k).length
  | 0=>by rw[rulesN];simp only[List.length_append,List.length_cons];omega
  | k + 1=>by
    have ih:=b1o r k
    rw[rulesN];split
    · rw[List.length_append];omega
    · exact ih
theorem readR_T{r:Rul}(h:okR r=true):readR (rulesT r)=(r,true):=by
  obtain⟨a,b⟩:=c0n r
  rw[a2c h] at a b
  have hne:rulesT r≠[]:=λe=>by have h5:=b1o r 5;have h6:=congrArg List.length e;unfold rulesT at h6;rw[List.length_nil] at h6;omega
  have h2:(readR (rulesT r)).2=true:=by rw[a];simp[hne]
  exact Prod.ext (b h2).1 h2
section
variable {g : Gam} {s : List UInt8} {n : Nat} {t : List (List UInt8)}
theorem rec_head(h:okG g=true)(hL:recL s=lnL g n++t)(hw:whole s=true):RecI s 2 (cutG g 0):=by
  obtain⟨k1,_⟩:=a0u h
  have kr:=a7u k1
  have hlen:n + 2<=(recL s).length:=by rw[hL,List.length_append,a5y];omega
  have R0:=RecI.zero s
  have y0:(recL s)[0]?=some (rulesW++32::rulesT g.rules):=by rw[hL];exact lnL_0 g n t
  have b0:=a8i (g:=Gam.zero) y0 (by decide)
  have c0:=b0o (b:=32) (a:=rulesW) (r:=rulesT g.rules) (by decide)
  have r0:=readR_T kr
  rw[a8z (g:=Gam.zero) (at_:=((0:Nat):Int)) rfl (by rw[c0]) (by rw[c0];show(readR (rulesT g.rules)).2=true;rw[r0])] at b0
  rw[c0] at b0
  have e0:readR (rulesW,rulesT g.rules,true).2.1=(g.rules,true):=r0
  rw[e0] at b0
  have R1:=R0.step (by omega) (flt_b (e:=whole s) b0 (λd=>by rw[hw] at d;exact absurd d.2.2 (by decide))) rfl
  have y1:(recL s)[1]?=some (startW++32::posText g.start):=by rw[hL];exact lnL_1 g n t
  have b1:=a8i (g:=Gam.mk g.rules Gam.zero.start Gam.zero.moves Gam.zero.now Gam.zero.resigned) y1 (by decide)
  have c1:=b0o (b:=32) (a:=startW) (r:=posText g.start) (by decide)
  have r1:=c0k k1
  rw[a8u (g:=Gam.mk g.rules Gam.zero.start Gam.zero.moves Gam.zero.now Gam.zero.resigned) (at_:=((1:Nat):Int)) (by decide) (by rw[c1]) (by rw[c1];show(readP g.rules (posText g.start)).2=true;rw[r1]),c1] at b1
  have e1:readP g.rules (startW,posText g.start,true).2.1=(g.start,true):=r1
  have b1':base (recL s) (Gam.mk g.rules Gam.zero.start Gam.zero.moves Gam.zero.now Gam.zero.resigned) 1=(freshG g.rules g.start,0):=by
    rw[b1];show(freshG g.rules (readP g.rules (posText g.start)).1,(0:Int))=_;rw[r1]
  have R2:=RecI.step (k:=1) R1 (by omega) (flt_b (e:=whole s) b1' (λd=>by rw[hw] at d;exact absurd d.2.2 (by decide))) rfl
  rw[cut_zero h];exact R2
theorem rec_step(h:okG g=true)(hL:recL s=lnL g n++t)(hw:whole s=true)(hn:n<=g.moves.length){k:Nat}(hk:k < n)(R:RecI s (k + 2) (cutG g k)):RecI s (k + 1 + 2) (cutG g (k + 1)):=by
  have hlen:n + 2<=(recL s).length:=by rw[hL,List.length_append,a5y];omega
  have yk:(recL s)[k + 2]?=some (mvL g k):=by rw[hL];exact lnL_k t hk
  have b:=a8q (g:=cutG g k) yk (by omega)
  obtain⟨_,p2,_⟩:=a0u h
  obtain⟨m1,m2⟩:=a9d h k;obtain⟨g1,g2⟩:=a9i g k
  have hnum:=mv_nums (n:=(k:Int) + 1) (m:=nth g.moves k) (g:=nth (recGs g) k) (by omega) (by omega) (by omega) (by omega) (by omega) (by omega)
  have hp:=b9s h (n:=k) (by omega)
  have hx:nextR (cutG g k) (numR (mvL g k))=(cutG g (k + 1),0):=by
    have e:numR (mvL g k)=(((k:Int) + 1,nth g.moves k,nth (recGs g) k),true):=hnum
    have c2:((k:Int) + 1)=((cutG g k).moves.length:Int) + 1:=by rw[b7l (by omega)]
    have c3:(play (cutG g k) (nth g.moves k)).2=0:=by rw[hp]
    have c4:=b9p h (show k < g.moves.length by omega)
    have hx0:=b6k (g:=cutG g k) (x:=(((k:Int) + 1,nth g.moves k,nth (recGs g) k),true)) rfl c2 c3 c4
    rw[e,hx0];show((play (cutG g k) (nth g.moves k)).1,(0:Int))=_;rw[hp]
  have hl:lineI (cutG g k) (mvL g k)=(cutG g (k + 1),0):=by
    have hm:¬ mvL g k=res0/\¬ mvL g k=res1:=mv_not
    have hn9:¬ (0:Int)<=(cutG g k).resigned:=by show ¬ (0:Int)<=-1;decide
    rw[a9t (g:=cutG g k) (t:=mvL g k) hn9 hm.1 hm.2 (by rw[hx]),hx]
  rw[hl] at b
  exact R.step (by omega) (flt_b b (λd=>by rw[hw] at d;exact absurd d.2.2 (by decide))) rfl
theorem b7g(h:okG g=true)(hL:recL s=lnL g n++t)(hw:whole s=true)(hn:n<=g.moves.length):∀ k,k<=n->RecI s (k + 2) (cutG g k)
  | 0,_=>rec_head h hL hw
  | k + 1,hk=>rec_step h hL hw hn (by omega) (b7g h hL hw hn k (by omega))
end
theorem dec_1:dec 0=[48]/\dec 1=[49]:=by
  constructor
  · rw[a4v (by decide) (by decide),show Lib.itoa 0=Lib.decDigits 0 from rfl,Lib.decDigits_one (by decide)];rfl
  · rw[a4v (by decide) (by decide),show Lib.itoa 1=Lib.decDigits 1 from rfl,Lib.decDigits_one (by decide)];rfl
theorem recT_L{g:Gam}:recL (recT g)=lnL g g.moves.length++enL g/\whole (recT g)=true:=by
  rw[a7y]
  exact b8p (λx hx=>by
    rcases List.mem_append.1 hx with hx|hx
    · exact lnL_10 _ _ x hx
    · exact enL_10 _ x hx)
theorem chkW_rec{g:Gam}(h:okG g=true):chkW (recT g)=(g,-1,0):=by
  obtain⟨hL,hw⟩:=recT_L (g:=g)
  obtain⟨_,p2,p3,p4,_⟩:=a0u h
  have R:=b7g h hL hw (Nat.le_refl _) g.moves.length (Nat.le_refl _)
  have hc:=cut_all h
  by_cases hr:0<=g.resigned
  · have he:enL g=[resW++32::dec g.resigned]:=if_pos hr
    rw[he] at hL
    have hlen:(recL (recT g)).length=g.moves.length + 3:=by rw[hL,List.length_append,a5y];rfl
    have yk:(recL (recT g))[g.moves.length + 2]?=some (resW++32::dec g.resigned):=by rw[hL];exact lnL_t g g.moves.length _ []
    have b:=a8q (g:=cutG g g.moves.length) yk (by omega)
    have hn1:¬ (0:Int)<=(cutG g g.moves.length).resigned:=by show ¬ (0:Int)<=-1;decide
    have hl:lineI (cutG g g.moves.length) (resW++32::dec g.resigned)=(g,0):=by
      have hx:resG (cutG g g.moves.length) g.resigned=g:=hc
      have:g.resigned=0\/g.resigned=1:=by omega
      rcases this with e|e
      · rw[a9e hn1 (by rw[e,dec_1.1];rfl),<- e,hx]
      · rw[a8x hn1 (by rw[e,dec_1.2];rfl),<- e,hx]
    rw[hl] at b
    have R2:=R.step (by omega) (flt_b b (λd=>by rw[hw] at d;exact absurd d.2.2 (by decide))) rfl
    exact R2.done (by omega)
  · have he:enL g=[]:=if_neg hr
    rw[he,List.append_nil] at hL
    have hlen:(recL (recT g)).length=g.moves.length + 2:=by rw[hL,a5y]
    have e:g.resigned=-1:=by omega
    have hx:cutG g g.moves.length=g:=by have h9:=hc;rw[e] at h9;exact h9
    rw[hx] at R
    exact R.done (by omega)
theorem recLine_b{n m g:Int}(h0 : -1000 < n)(h1:n < 1000)(h2 : -1000 < m)(h3:m < 1000)(h4 : -1000 < g)(h5:g < 1000):(recLine n m g).length<=15:=by
  have key:∀ {n:Int},-1000 < n->n < 1000->(dec n).length<=4:=fun {n} a b=>by
    rw[a4v (by omega) (by omega)];unfold Lib.itoa
    split
    · have:=dd_3 (n:=n.natAbs) (by omega);rw[List.length_cons];omega
    · have:=dd_3 (n:=n.toNat) (by omega);omega
  have a:=key h0 h1;have b:=key h2 h3;have c:=key h4 h5
  unfold recLine;simp only[List.length_append,List.length_cons,List.length_nil];omega
theorem recB_b{g:Gam}(h:okG g=true):∀ k,k<=120->(recB g k).length<=1200 + 16 * k
  | 0,_=>b0k h
  | k + 1,hk=>by
    have ih:=recB_b h k (by omega)
    obtain⟨m1,m2⟩:=a9d h k;obtain⟨g1,g2⟩:=a9i g k
    have hl:=recLine_b (n:=(k:Int) + 1) (m:=nth g.moves k) (g:=nth (recGs g) k) (by omega) (by omega) (by omega) (by omega) (by omega) (by omega)
    show((recB g k++recLine ((k:Int) + 1) (nth g.moves k) (nth (recGs g) k))++[10]).length<=_
    simp only[List.length_append,List.length_cons,List.length_nil];omega
theorem recT_b{g:Gam}(h:okG g=true):(recT g).length<=3200:=by
  obtain⟨_,p2,_,p4,_⟩:=a0u h
  have hb:=recB_b h _ p2
  have hd:=a1v g.resigned
  unfold recT;split
  · simp only[List.length_append,List.length_cons,List.length_nil];omega
  · omega
theorem readG_rec{g:Gam}(h:okG g=true):readG (recT g)=(g,true):=by
  have hb:=recT_b h
  have hc:=chkW_rec h
  rw[a8c (by omega) (by rw[hc]),hc]
theorem dec_not{n:Int}(hn:dec n≠[])(r:List UInt8):¬ (dec n++r)=res0/\¬ (dec n++r)=res1:=by
  have hd:∀ b∈dec n,decB b:=λb hb=>dec_B hb
  generalize dec n=d at *
  cases d with
  | nil=>exact absurd rfl hn
  | cons c l =>
    have hb:=hd c (by simp)
    have hc:c≠114:=by
      rintro rfl
      rcases hb with h|⟨h1,h2⟩
      · exact absurd h (by decide)
      · exact absurd h2 (by decide)
    constructor <;> (intro h;exact hc (List.cons.inj h).1)
def wrongT(g:Gam):List UInt8:=(recT g).take ((recT g).length - 1)++[48,10]
theorem b6g{g:Gam}{n:Nat}(hn:g.moves.length=n + 1)(hr:¬ 0<=g.resigned):wrongT g=endL (lnL g n++[mvL g n++[48]]):=by
  have he:enL g=[]:=if_neg hr
  have h1:recT g=(endL (lnL g n)++mvL g n)++[10]:=by
    rw[a7y,he,List.append_nil,hn]
    show endL (hdL g++(List.range (n + 1)).map (mvL g))=_
    rw[List.range_succ,List.map_append,<- List.append_assoc,a9f]
    simp[endL,lnL]
  unfold wrongT
  rw[h1,List.length_append,show([10]:List UInt8).length=1 from rfl,Nat.add_sub_cancel,List.take_left',a9f]
  · simp[endL]
  · rfl
theorem wrong_law{g:Gam}{n:Nat}(h:okG g=true)(hn:g.moves.length=n + 1)(hr:¬ 0<=g.resigned):chkW (wrongT g)=(Gam.zero,(n:Int) + 2,if nth (recGs g) n=0 then 3 else 6):=by
  have h10:∀ x∈lnL g n++[mvL g n++[48]],(10:UInt8) ∉ x:=λx hx=>by
    rcases List.mem_append.1 hx with hx|hx
    · exact lnL_10 _ _ x hx
    · simp only[List.mem_cons,List.not_mem_nil,or_false] at hx
      have h9:(10:UInt8) ∉ mvL g n:=b1v ((n:Int) + 1) (nth g.moves n) (nth (recGs g) n)
      rw[hx]
      intro h8
      rcases List.mem_append.1 h8 with h8|h8
      · exact h9 h8
      · exact absurd h8 (by decide)
  obtain⟨hL,hw⟩:=b8p h10
  rw[<- b6g hn hr] at hL hw
  obtain⟨_,p2,p3,p4,_⟩:=a0u h
  have R:=b7g h hL hw (by omega) n (Nat.le_refl _)
  have hlen:(recL (wrongT g)).length=n + 3:=by rw[hL,List.length_append,a5y];rfl
  have yk:(recL (wrongT g))[n + 2]?=some (mvL g n++[48]):=by rw[hL];exact lnL_t g n _ []
  have b:=a8q (g:=cutG g n) yk (by omega)
  obtain⟨m1,m2⟩:=a9d h n;obtain⟨g1,g2⟩:=a9i g n
  have hn1:¬ (0:Int)<=(cutG g n).resigned:=by show ¬ (0:Int)<=-1;decide
  have hp:=b9s h (n:=n) (by omega)
  by_cases hz:nth (recGs g) n=0
  · rw[if_pos hz]
    have hx:mvL g n++[48]=dec ((n:Int) + 1)++46::32::(dec (nth g.moves n)++43::(dec 0++[48])):=by
      unfold mvL;rw[hz];simp[recLine]
    have hI:(numI (mvL g n++[48])).2=false:=by
      rw[hx];unfold numI
      rw[b8b (a3z (by simp))];dsimp only
      rw[b4j (a3z (by simp))];dsimp only
      rw[dec_00];simp
    have hR:(numR (mvL g n++[48])).2=false:=by rw[<- (b9z _).1];exact hI
    have hN:=b0q (g:=cutG g n) hR
    have hne:¬ (mvL g n++[48])=res0/\¬ (mvL g n++[48])=res1:=by
      rw[hx];exact dec_not (num_ne (by rw[a4s (by omega) (by omega)])) _
    have n3:¬ (nextR (cutG g n) (numR (mvL g n++[48]))).2=0:=by rw[hN];show ¬ (3:Int)=0;decide
    rw[a4t (g:=cutG g n) (t:=mvL g n++[48]) hn1 hne.1 hne.2 n3,hN] at b
    have:=R.bad (by omega) (flt_b (e:=whole (wrongT g)) b (λd=>absurd d.1 (show ¬ (3:Int)=0 by decide))) (show ¬ (3:Int)=0 by decide)
    rw[this];rfl
  · rw[if_neg hz]
    have hx:mvL g n++[48]=recLine ((n:Int) + 1) (nth g.moves n) (10 * nth (recGs g) n):=by
      unfold mvL recLine;rw[List.append_assoc,dec_10 (by omega) (by omega) hz]
    have hnum:=mv_nums (n:=(n:Int) + 1) (m:=nth g.moves n) (g:=10 * nth (recGs g) n) (by omega) (by omega) (by omega) (by omega) (by omega) (by omega)
    rw[hx] at b
    have hN:nextR (cutG g n) (numR (recLine ((n:Int) + 1) (nth g.moves n) (10 * nth (recGs g) n)))=(Gam.zero,6):=by
      rw[hnum]
      have c2:((n:Int) + 1)=((cutG g n).moves.length:Int) + 1:=by rw[b7l (by omega)]
      have c3:(play (cutG g n) (nth g.moves n)).2=0:=by rw[hp]
      have c4:¬ (make (cutG g n).rules (cutG g n).now (nth g.moves n)).1.gain=10 * nth (recGs g) n:=by rw[b9p h (show n < g.moves.length by omega)];omega
      exact b7a (g:=cutG g n) (x:=(((n:Int) + 1,nth g.moves n,10 * nth (recGs g) n),true)) rfl c2 c3 c4
    have hm:=mv_not (n:=(n:Int) + 1) (m:=nth g.moves n) (g:=10 * nth (recGs g) n)
    have n6:¬ (nextR (cutG g n) (numR (recLine ((n:Int) + 1) (nth g.moves n) (10 * nth (recGs g) n)))).2=0:=by rw[hN];show ¬ (6:Int)=0;decide
    rw[a4t (g:=cutG g n) hn1 hm.1 hm.2 n6,hN] at b
    have:=R.bad (by omega) (flt_b (e:=whole (wrongT g)) b (λd=>absurd d.1 (show ¬ (6:Int)=0 by decide))) (show ¬ (6:Int)=0 by decide)
    rw[this];rfl
theorem nextR_bd(g:Gam)(x:(Int×Int×Int)×Bool):0<=(nextR g x).2/\(nextR g x).2<=7:=by
  unfold nextR;(repeat' split) <;> exact⟨by dsimp only;omega,by dsimp only;omega⟩
theorem lineI_bd(g:Gam)(t:List UInt8):0<=(lineI g t).2/\(lineI g t).2<=7:=by
  have:=nextR_bd g (numR t)
  unfold lineI;(repeat' split) <;> exact⟨by dsimp only;omega,by dsimp only;omega⟩
theorem headI_bd(g:Gam)(a:Int)(t:List UInt8):0<=(headI g a t).2/\(headI g a t).2<=7:=by
  unfold headI head0 head1;(repeat' split) <;> exact⟨by dsimp only;omega,by dsimp only;omega⟩
theorem flt_bd{l:List (List UInt8)}{e:Bool}{g:Gam}{k:Nat}(hk:k < max l.length 2):0<=(flt l e g k).2/\(flt l e g k).2<=7:=by
  have hb:0<=(base l g k).2/\(base l g k).2<=7:=by
    by_cases h:l.length<=k
    · rw[b3o h];exact⟨by dsimp only;omega,by dsimp only;omega⟩
    · obtain⟨y,hy⟩:∃ y,l[k]?=some y:=⟨_,List.getElem?_eq_getElem (by omega)⟩
      by_cases h2:k < 2
      · rw[a8i hy h2];exact headI_bd _ _ _
      · rw[a8q hy h2];exact lineI_bd _ _
  by_cases c:(base l g k).2=0/\k + 1=l.length/\e=false
  · rw[flt_7 rfl c];exact⟨by dsimp only;omega,by dsimp only;omega⟩
  · rw[flt_b rfl c];exact hb
theorem goN_bd{l:List (List UInt8)}{e:Bool}:∀ (n k:Nat) (g:Gam),k + n<=max l.length 2->0<=(goN l e n k g).2.2/\(goN l e n k g).2.2<=7
  | 0,k,g,_=>⟨by show(0:Int)<=0;omega,by show(0:Int)<=7;omega⟩
  | n + 1,k,g,h=>by
    rw[goN];split
    · exact goN_bd n (k + 1) _ (by omega)
    · exact flt_bd (by omega)
theorem chkW_bd(s:List UInt8):0<=(chkW s).2.2/\(chkW s).2.2<=7:=goN_bd _ 0 _ (by omega)
theorem fault_ne{k:Int}(h0:1<=k)(h1:k<=7):faultName k≠[]:=by
  have hk:k=1\/k=2\/k=3\/k=4\/k=5\/k=6\/k=7:=by omega
  rcases hk with rfl|rfl|rfl|rfl|rfl|rfl|rfl <;> decide
theorem chk_law(s:List UInt8):(readG s).2=(decide ((chkC s).2.2=0) && decide ((chkC s).1=-1))/\((chkC s).2.2=0->0<=(chkC s).1->faultName (chkC s).2.1≠[]):=by
  by_cases h:4000 < s.length
  · rw[b0a h,chkC_5 h];exact⟨by decide,λh9=>absurd h9 (by decide)⟩
  · rw[b9h h]
    dsimp only
    have hb:=chkW_bd s
    rcases b1y s with⟨h1,h2⟩|⟨h1,h2,_⟩
    · rw[a8c h h2,h1];exact⟨rfl,λ_ h9=>absurd h9 (by decide)⟩
    · rw[a8a h h2]
      refine⟨?_,λ_ _=>fault_ne (by omega) (by omega)⟩
      have:¬ (chkW s).2.1=-1:=by omega
      simp[this]
theorem recT_ne{g:Gam}:recT g≠[]:=by
  rw[a7y]
  show endL (hdL g++_++_)≠[]
  simp[hdL,endL]
theorem rec_law(g:Gam):(readG (recTR g)).2=!decide (recTR g=[])/\((readG (recTR g)).2=true->(readG (recTR g)).1=g/\okG g=true):=by
  cases h:okG g with
  | true =>
    rw[a6o h,readG_rec h]
    exact⟨by simp[recT_ne],λ_=>⟨rfl,rfl⟩⟩
  | false =>
    rw[b3d h]
    have:readG []=(Gam.zero,false):=a8a (by decide) (by decide +kernel)
    rw[this];exact⟨by decide,λh9=>absurd h9 (by decide)⟩
theorem wrong_chk{g:Gam}{n:Nat}(h:okG g=true)(hn:g.moves.length=n + 1)(hr:¬ 0<=g.resigned):chkC (wrongT g)=((n:Int) + 2,if nth (recGs g) n=0 then 3 else 6,0):=by
  have hb:=recT_b h
  have hl:¬ 4000 < (wrongT g).length:=by unfold wrongT;rw[List.length_append,List.length_take];simp only[List.length_cons,List.length_nil];omega
  rw[b9h hl,wrong_law h hn hr]
theorem recTR_le(g:Gam):(recTR g).length<=3200:=by
  unfold recTR;split
  · rename_i h;exact recT_b h
  · exact Nat.zero_le _
theorem c0h{g:Gam}(h:okG g=true):gainsR g=recGs g:=by
  obtain⟨_,_,_,_,_,_,k7,_,_⟩:=a0u h
  rw[b1w h,k7];rfl
end Go.Proofs.YtjgohnaobbphpaaGreatDoor.M

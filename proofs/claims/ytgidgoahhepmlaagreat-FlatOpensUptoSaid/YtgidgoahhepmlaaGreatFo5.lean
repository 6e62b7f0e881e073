/- Parts of the proof: lemmas, and the steps through the program. -/
import Derived.Test.YtgidgoahhepmlaaGreatFo4
import Derived.Test.YtgidgoahhepmlaaGreatProg
import Derived.KernelRfl
set_option linter.unusedVariables false
set_option linter.unusedSimpArgs false
set_option maxRecDepth 100000
set_option maxHeartbeats 2000000
namespace Go.Proofs.YtgidgoahhepmlaaGreat
open Go.SX Go.SW Go.BX
theorem aJG:okB (run0 Tryz.prog 1000000 10) true=true:=by kernel_rfl
def aDh:Option Bool:=some true
theorem aJe (r:Bool) (H:aDh=some r):FnS Tryz.prog 10 [] [] (aH r) (fun _=>[]):=by
 cases H
 obtain⟨s,h⟩:=run_true aJG
 exact aIt (by kernel_rfl) rfl h
open Go.SX Go.SW Go.Dt
attribute [local irreducible] Code.wpIn wpListIn Exit.then Exit.inBlock
def tO (AA:Nat) (a0:AJ) (a1:AJ):Nat->Int->Option ((Unit) ⊕ (Bool))
| 0,_=>none
| k+1,x2=>
 if x2<(a0.AB.length:Int)then
  (idx a0.AB x2).bind fun y2=>
  (idx a1.AB x2).bind fun y3=>
  (wX AA y2 y3).bind fun y4=>
  bif y4 then
   (chk (x2+1)).bind fun z1=>
   tO AA a0 a1 k z1
  else
   (some false).bind fun r=>some (Sum.inr r)
 else
  some (Sum.inl ())
def qW (AA:Nat) (a0:AJ) (a1:AJ):Nat->Int->Option ((Unit) ⊕ (Bool))
| 0,_=>none
| k+1,x4=>
 if x4<(a0.AD.length:Int)then
  (idx a0.AD x4).bind fun y5=>
  (idx a1.AD x4).bind fun y6=>
  (aAh AA y5 y6).bind fun y7=>
  bif y7 then
   (chk (x4+1)).bind fun z2=>
   qW AA a0 a1 k z2
  else
   (some false).bind fun r=>some (Sum.inr r)
 else
  some (Sum.inl ())
def tS (AA:Nat) (a0:AJ) (a1:AJ):Option (Bool):=
 (xQ AA a0.AF a1.AF).bind fun y1=>
 bif !y1 then
  some false
 else
  if (a0.AB.length:Int)≠(a1.AB.length:Int)then
   some false
  else
   if (a0.AD.length:Int)≠(a1.AD.length:Int)then
    some false
   else
    if a0.AG≠a1.AG then
     some false
    else
     (tO AA a0 a1 AA 0).bind fun o=>match o with
     | Sum.inr r=>some r
     | Sum.inl _=>
     (qW AA a0 a1 AA 0).bind fun o=>match o with
     | Sum.inr r=>some r
     | Sum.inl _=>
     some true
theorem aJd (AA:Nat)  (a0:AJ) (a1:AJ) (r:Bool) (H:tS AA a0 a1=some r):FnS Tryz.prog 15 [fSt dQ a0,fSt dQ a1] [] (aH r) (fun _=>[]):=by
 unfold tS at H
 refine bB Tryz.func15 rfl Tryz.ntmps15 rfl (fun β=>?_)
 refine Z1 ?_
 refine Tn (bU rfl hh bM) fun b1=>?_
 refine Tn (bU rfl hh bM) fun b2=>?_
 refine Z2 ?_
 refine aG ?_
 refine B5 H fun y1 h1 H=>?_
 refine Tc (aKp _ _ _ _ h1) ?_
 refine Z2 ?_
 refine cz H (fun c1 H=>?_) fun c1 H=>?_
 refine Z12 ?_
 refine Z12 ?_
 refine Z6 ?_
 cases H
 refine aE [] (by decide) ?_
 exact To
 refine I9 H (fun c2 H=>?_) fun c2 H=>?_
 refine Z12 ?_
 refine Z9 ?_
 cases H
 refine aE [] (by decide) ?_
 exact To
 refine I9 H (fun c3 H=>?_) fun c3 H=>?_
 refine Z12 ?_
 cases H
 refine aE [] (by decide) ?_
 exact To
 refine I7 H (fun c4 H=>?_) fun c4 H=>?_
 refine Z5 ?_
 cases H
 refine aE [] (by decide) ?_
 exact To
 revert H;refine B3z fun o1 H Hr1=>?_
 refine aO (ι:=Unit) (fun i=>o1=Sum.inl ()) (fun i=>[(2,fEq (ptr b1)),(3,fEq (ptr b2))]) (fun i=>[aA b2 26 [fSl aD a1.AF,fSl aJ a1.AB,fSl aB a1.AD,fI a1.AG],aA b1 26 [fSl aD a0.AF,fSl aJ a0.AB,fSl aB a0.AD,fI a0.AG]]) ?_ ?_
 refine Z4 ?_
 refine Th (ι:=Int) (fun i=>tO AA a0 a1 i.1 i.2=_) (fun i=>[(2,fEq (ptr b1)),(3,fEq (ptr b2)),(5,fI i.2)]) (fun i=>[aA b2 26 [fSl aD a1.AF,fSl aJ a1.AB,fSl aB a1.AD,fI a1.AG],aA b1 26 [fSl aD a0.AF,fSl aJ a0.AB,fSl aB a0.AD,fI a0.AG]]) (AA,0) H (fun _ h=>nomatch h) ?_
 clear H;rintro k1 x2 H;dsimp only at H ⊢;rw [tO]at H
 refine aG ?_
 revert H;refine I7z (fun c5 H=>?_) fun c5 H=>?_
 refine Z3 ?_
 refine aG ?_
 refine Z1 ?_
 refine aG ?_
 revert H;refine bs fun y2 h2 H=>?_
 revert H;refine bs fun y3 h3 H=>?_
 revert H;refine bs fun y4 h4 H=>?_
 apply bD (ods:=[_,_,_,_,_,_,_,_,_,_,_,_]) 12 0 2 bC rfl rfl rfl
 refine ND ?_
 refine M8 ?_
 intros
 refine M2 ?_
 intros
 refine Nc (aI0 _ _ _ _ h4) fun _=>?_
 refine M1 ?_
 intros
 refine Z2 ?_
 revert H;refine cs (fun c6 H=>?_) fun c6 H=>?_
 revert H;refine B6z fun z1 h5 H=>?_
 refine Z3 ?_
 exact Tm ((k1,z1)) ⟨H,ls⟩
 revert H;refine dS fun r1 H e1=>?_
 cases e1;cases Hr1
 cases H
 refine aE [] (by decide) ?_
 exact To
 exact fk
 kernel_rfl
 refine Z6 ?_
 exact Tm (()) (ij H)
 rintro i hi;subst o1;replace H:=Hr1;clear Hr1;try dsimp only at H ⊢
 revert H;refine bs fun o2 H Hr2=>?_
 refine aO (ι:=Unit) (fun i=>o2=Sum.inl ()) (fun i=>[]) (fun i=>[aA b2 26 [fSl aD a1.AF,fSl aJ a1.AB,fSl aB a1.AD,fI a1.AG],aA b1 26 [fSl aD a0.AF,fSl aJ a0.AB,fSl aB a0.AD,fI a0.AG]]) ?_ ?_
 refine Z4 ?_
 refine Th (ι:=Int) (fun i=>qW AA a0 a1 i.1 i.2=_) (fun i=>[(2,fEq (ptr b1)),(3,fEq (ptr b2)),(6,fI i.2)]) (fun i=>[aA b2 26 [fSl aD a1.AF,fSl aJ a1.AB,fSl aB a1.AD,fI a1.AG],aA b1 26 [fSl aD a0.AF,fSl aJ a0.AB,fSl aB a0.AD,fI a0.AG]]) (AA,0) H (fun _ h=>nomatch h) ?_
 clear H;rintro k2 x4 H;dsimp only at H ⊢;rw [qW]at H
 refine aG ?_
 revert H;refine I7z (fun c7 H=>?_) fun c7 H=>?_
 refine Z3 ?_
 refine aG ?_
 refine Z1 ?_
 refine aG ?_
 revert H;refine bs fun y5 h6 H=>?_
 revert H;refine bs fun y6 h7 H=>?_
 revert H;refine bs fun y7 h8 H=>?_
 apply bD (ods:=[_,_,_,_,_,_,_,_,_,_,_,_]) 12 0 2 bC rfl rfl rfl
 refine ND ?_
 refine M8 ?_
 intros
 refine M2 ?_
 intros
 refine Nc (aLN _ _ _ _ h8) fun _=>?_
 refine M1 ?_
 intros
 refine Z2 ?_
 revert H;refine cs (fun c8 H=>?_) fun c8 H=>?_
 revert H;refine B6z fun z2 h9 H=>?_
 refine Z3 ?_
 exact Tm ((k2,z2)) ⟨H,ls⟩
 revert H;refine dS fun r2 H e2=>?_
 cases e2;cases Hr2
 cases H
 refine aE [] (by decide) ?_
 exact To
 exact fk
 kernel_rfl
 refine Z6 ?_
 exact Tm (()) (ij H)
 rintro i hi;subst o2;replace H:=Hr2;clear Hr2;try dsimp only at H ⊢
 refine Z4 ?_
 cases H
 refine aE [] (by decide) ?_
 exact To
def aAC (AA:Nat) (a0:AH):Option (Bool):=
 (qJ AA (⟨a0.AF,a0.AI,a0.AB,a0.AD,a0.AG⟩:AH)).bind fun y1=>
 (qU AA (⟨a0.AF,a0.AI,a0.AB,a0.AD,a0.AG⟩:AH)).bind fun y2=>
 (sU AA (⟨a0.AF,a0.AI,a0.AB,a0.AD,a0.AG⟩:AH)).bind fun y3=>
 (tW AA (⟨a0.AF,a0.AI,a0.AB,a0.AD,a0.AG⟩:AH)).bind fun y4=>
 (if y1.2=y2.2 then
  (tS AA (⟨y1.1.AF,y1.1.AB,y1.1.AD,y1.1.AG⟩:AJ) (⟨y2.1.AF,y2.1.AB,y2.1.AD,y2.1.AG⟩:AJ)).bind fun y5=>
  bif y5 then
   if y3.1=y4.1 then
    if y3.2=y4.2 then
     (aDh).bind fun y6=>
     some y6
    else
     some false
   else
    some false
  else
   some false
 else
  some false).bind fun x1=>
 some x1
theorem aIY (AA:Nat)  (a0:AH) (r:Bool) (H:aAC AA a0=some r):FnS Tryz.prog 4 [fSt jB a0] [] (aH r) (fun _=>[]):=by
 unfold aAC at H
 refine bB Tryz.func4 rfl Tryz.ntmps4 rfl (fun β=>?_)
 refine Z1 ?_
 refine Tn (bU rfl hh bM) fun b1=>?_
 refine B4 H fun y1 h1 H=>?_
 refine Tc (aIj _ _ _ h1) ?_
 refine Z3 ?_
 refine Tn (cB rfl aB8 rfl) fun b2=>?_
 refine cO (φs':=[fSl aD y1.1.AF,fSl aJ y1.1.AB,fSl aB y1.1.AD,fI y1.1.AG]) a1F rfl rfl (has rfl) (has rfl) (aI (aS) (aI (aS) (aI (aS) (aI (aF a1F) bN)))) (sz rfl) rfl rfl rfl ?_
 refine B4 H fun y2 h2 H=>?_
 refine Tc (aKH _ _ _ h2) ?_
 refine Z3 ?_
 refine Tn (cB rfl aB8 rfl) fun b3=>?_
 refine cO (φs':=[fSl aD y2.1.AF,fSl aJ y2.1.AB,fSl aB y2.1.AD,fI y2.1.AG]) a1F rfl rfl (has rfl) (has rfl) (aI (aS) (aI (aS) (aI (aS) (aI (aF a1F) bN)))) (sz rfl) rfl rfl rfl ?_
 refine B4 H fun y3 h3 H=>?_
 refine Tc (aK3 _ _ _ h3) ?_
 refine B8 H fun y4 h4 H=>?_
 refine Tc (aJW _ _ _ h4) ?_
 revert H;refine B6z fun o1 H Hr1=>?_
 refine aO (fun i=>o1=i) (fun i=>[(2,aH i)]) (fun i=>[aA b3 26 [fSl aD y2.1.AF,fSl aJ y2.1.AB,fSl aB y2.1.AD,fI y2.1.AG],aA b2 26 [fSl aD y1.1.AF,fSl aJ y1.1.AB,fSl aB y1.1.AD,fI y1.1.AG],aA b1 30 [fSl aD a0.AF,fSl tI a0.AI,fSl aW a0.AB,fSl aB a0.AD,fI a0.AG]]) ?_ ?_
 revert H;refine I5z (fun c1 H=>?_) fun c1 H=>?_
 revert H;refine B2z fun y5 h5 H=>?_
 refine Tc (aJd _ _ _ _ h5) ?_
 refine Z2 ?_
 revert H;refine cs (fun c2 H=>?_) fun c2 H=>?_
 revert H;refine I5z (fun c3 H=>?_) fun c3 H=>?_
 revert H;refine I5z (fun c4 H=>?_) fun c4 H=>?_
 revert H;refine bs fun y6 h6 H=>?_
 refine Tc (aJe _ h6) ?_
 refine Z3 ?_
 exact Tm (y6) (ij H)
 refine Z4 ?_
 exact Tm (false) (ij H)
 refine Z9 ?_
 exact Tm (false) (ij H)
 refine Z12 ?_
 refine Z2 ?_
 exact Tm (false) (ij H)
 refine Z12 ?_
 refine Z7 ?_
 exact Tm (false) (ij H)
 rintro x1 hi;subst o1;replace H:=Hr1;clear Hr1;try dsimp only at H ⊢
 refine Z1 ?_
 cases H
 refine aE [] (by decide) ?_
 exact To
open Go.SX Go.SW Go.Dt
theorem bsm {α γ:Type} {a:α} {f:α->Option γ}:(some a).bind f=f a:=by
 grind
theorem nZ {α:Type} {xs:List α} {i:Nat} {y:α} (h:xs[i]? =some y):idx xs (i:Int)=some y:=by
 grind [idx]
theorem bP {α:Type} (AC AE:List α) (y:α):idx (AC++y :: AE) (AC.length:Int)=some y:=nZ (by simp)
theorem aQ {i:Int} (h:-9000000000000000000<=i/\i<=9000000000000000000):chk i=some i:=by grind [chk]
theorem bJ {α:Type} (AC AE:List α) (y:α):(AC.length:Int)<((AC++y :: AE).length:Int):=by simp;omega
theorem bR {α:Type} (AC AE:List α) (y:α):AC++y :: AE=(AC++[y])++AE:=by simp
theorem bE {α:Type} (AC:List α) (y:α):(AC.length:Int)+1=((AC++[y]).length:Int):=by simp
theorem lQ (e:AV):(⟨e.Op,e.N,e.AM⟩:AV)=e:=by cases e;rfl
def flaw:Value:= .iface 245 (.agg ([(.int .i64 2)]:List Value).toArray)
theorem eP:bZ true=some (.inl ()):=rfl
theorem dC:bZ false=some (.inr flaw):=rfl
mutual
def nE:AV->Nat
 | ⟨_,_,ks⟩=>1+nL ks
def nL:List AV->Nat
 | []=>0
 | k :: ks=>nE k+nL ks
end
mutual
def dE:AV->Nat
 | ⟨_,_,ks⟩=>1+dL ks
def dL:List AV->Nat
 | []=>0
 | k :: ks=>max (dE k) (dL ks)
end
def loc (s op n:Int) (l:Nat):Bool:=
 if op=1 then decide (-1000000000<=n/\n<=1000000000/\l=0) else if op=2 then decide (0<=n/\n<s/\l=0) else decide (3<=op/\op<=7/\n=0/\l=2)
mutual
def fE (s:Int):AV->Bool
 | ⟨op,n,ks⟩=>loc s op n ks.length && fL s ks
def fL (s:Int):List AV->Bool
 | []=>true
 | k :: ks=>fE s k && fL s ks
end
theorem nE_pos (e:AV):1<=nE e:=by cases e;simp only [nE];omega
theorem nD:∀ l:List AV,l.length<=nL l
 | []=>by simp [nL]
 | k :: ks=>by have:=nD ks;have:=nE_pos k;simp only [nL,a0G];omega
theorem gT:∀ {l:List AV} {e:AV},e∈l->nE e<=nL l
 | k :: ks,e,h=>by
  simp only [nL];cases h with
  | head=>omega
  | tail _ h=>have:=gT h;omega
def okE (s:Int) (e:AV):Bool:=fE s e && decide (dE e<=12) && decide (nE e<=60)
def exR (s d w:Int) (e:AV):Int ⊕ Value:=if fE s e=true/\d+dE e<=13/\w+nE e<=60 then .inl (w+nE e) else .inr flaw
theorem aFQ {rec:AV->Int->Int->Int->Option (Int ⊕ Value)} {op n d s:Int} (hd:0<=d/\d<=12):
 ∀ (AE AC:List AV) (k:Nat) (w:Int),AE.length<k->AC.length+AE.length<=1000000000->0<=w->w<=60->(∀ e∈AE,∀ w:Int,0<=w->w<=60->rec e (d+1) w s=some (exR s (d+1) w e)) ->
  sF rec ⟨op,n,AC++AE⟩ d s k AC.length w=some (if fL s AE=true/\d+1+dL AE<=13/\w+nL AE<=60 then .inl (w+nL AE) else .inr flaw)
 | [],AC,k+1,w,_,_,h0,h1,_=>by
  rw [sF,a1D (by simp),a1E ⟨rfl,by simp [dL];omega,by simpa [nL]⟩];simp [nL]
 | e :: AE,AC,k+1,w,hk,hB,h0,h1,hr=>by
  rw [sF,a1E (bJ _ _ _),bP];have hr1:=hr e (.head _) w h0 h1;simp only [a0G]at hk hB;simp only [bsm,aQ (i:=d+1) (by omega)];rw [lQ,hr1];simp only [bsm,exR];have hn:=nE_pos e;by_cases hc:fE s e=true/\d+1+dE e<=13/\w+nE e<=60
  ·rw [a1E hc];simp only [aQ (i:=(AC.length:Int)+1) (by omega),bsm];rw [bR,bE,aFQ hd AE (AC++[e]) k _ (by omega) (by simp;omega) (by omega) hc.2.2 (fun x hx=>hr x (.tail _ hx))];congr 1
   by_cases hs:fL s AE=true/\d+1+dL AE<=13/\w+nE e+nL AE<=60
   ·rw [a1E hs,a1E ⟨by simp [fL,hc.1,hs.1],by simp only [dL];omega,by simp only [nL];omega⟩];simp only [nL,Int.natCast_add];congr 1;omega
   ·rw [a1D hs,a1D];rintro⟨g1,g2,g3⟩
    simp only [fL,a0g]at g1;simp only [dL]at g2;simp only [nL]at g3;exact hs ⟨g1.2,by omega,by omega⟩
  ·rw [a1D hc];dsimp only
   rw [a1D];rintro⟨g1,g2,g3⟩
   simp only [fL,a0g]at g1;simp only [dL]at g2;simp only [nL]at g3;exact hc ⟨g1.1,by omega,by omega⟩
theorem aET:∀ (AA:Nat) (e:AV) (d w s:Int),nE e<AA->nE e<=1000000000->0<=d->d<=1000->0<=w->w<=60->nK AA e d w s=some (exR s d w e)
 | AA+1,⟨op,n,ks⟩,d,w,s,hf,hB,hd,hd2,hw,hw2=>by
  rw [nK];simp only [nE]at hf hB;have hlen:=nD ks;simp only [aQ (i:=w+1) (by omega),bsm];have hdE:dE ⟨op,n,ks⟩=1+dL ks:=by simp only [dE]
  have hnE:nE ⟨op,n,ks⟩=1+nL ks:=by simp only [nE]
  have hfE:fE s ⟨op,n,ks⟩=(loc s op n ks.length && fL s ks):=by simp only [fE]
  by_cases h1:w+1<=60/\d<=12
  ·by_cases h2:loc s op n ks.length=true
   ·have hloop:=aFQ (rec:=nK AA) (op:=op) (n:=n) (s:=s) ⟨hd,h1.2⟩ ks [] AA (w+1) (by omega) (by simp;omega) (by omega) h1.1
     (fun e he w h0 h60=>aET AA e (d+1) w s (by have:=gT he;omega) (by have:=gT he;omega) (by omega) (by omega) h0 h60)
    simp only [a0X,a0J,a0m]at hloop;have hres:(some (if fL s ks=true/\d+1+(dL ks:Int)<=13/\w+1+(nL ks:Int)<=60 then Sum.inl (w+1+(nL ks:Int)) else Sum.inr flaw):Option (Int ⊕ Value))=some (exR s d w ⟨op,n,ks⟩):=by
     unfold exR;rw [hdE,hnE,hfE,h2];congr 1
     by_cases hc:fL s ks=true/\d+1+(dL ks:Int)<=13/\w+1+(nL ks:Int)<=60
     ·rw [a1E hc,a1E ⟨by simp [hc.1],by omega,by omega⟩];congr 1;omega
     ·rw [a1D hc,a1D];rintro⟨g1,g2,g3⟩
      exact hc ⟨by simpa using g1,by omega,by omega⟩
    rw [<- hres,<- hloop];unfold loc at h2;rw [a1E h1.1,a1B h1.2,eP];simp only [bsm];by_cases o1:op=1
    ·rw [a1E o1]at h2 ⊢;obtain⟨a,b,c⟩:=of_decide_eq_true h2;rw [a1E a,a1E b,a1B (by omega),eP];rfl
    ·rw [a1D o1]at h2 ⊢;by_cases o2:op=2
     ·rw [a1E o2]at h2 ⊢;obtain⟨a,b,c⟩:=of_decide_eq_true h2;rw [a1E a,a1E b,a1B (by omega),eP];rfl
     ·rw [a1D o2]at h2 ⊢;obtain⟨a,b,c,e⟩:=of_decide_eq_true h2;have:((if op=3 then some (decide (op=3)) else if op=4 then some (decide (op=4)) else if op=5 then some (decide (op=5)) else if op=6 then some (decide (op=6)) else some (decide (op=7))):Option Bool)=some true:=by
       split;· simp_all
       split;· simp_all
       split;· simp_all
       split;· simp_all
       rw [a1B (by omega)]
      rw [this];simp only [bsm,a1z];rw [a1E c,a1B (by omega),eP];rfl
   ·have hr:exR s d w ⟨op,n,ks⟩= .inr flaw:=by
     unfold exR;rw [a1D];rintro⟨g,_⟩;rw [hfE]at g;simp [h2]at g
    rw [hr,a1E h1.1,a1B h1.2,eP];simp only [bsm];unfold loc at h2;by_cases o1:op=1
    ·rw [a1E o1]at h2 ⊢;simp only [a1C]at h2;by_cases a:-1000000000<=n
     ·rw [a1E a];by_cases b:n<=1000000000
      ·rw [a1E b,a1A (by omega),dC];rfl
      ·rw [a1D b,dC];rfl
     ·rw [a1D a,dC];rfl
    ·rw [a1D o1]at h2 ⊢;by_cases o2:op=2
     ·rw [a1E o2]at h2 ⊢;simp only [a1C]at h2;by_cases a:0<=n
      ·rw [a1E a];by_cases b:n<s
       ·rw [a1E b,a1A (by omega),dC];rfl
       ·rw [a1D b,dC];rfl
      ·rw [a1D a,dC];rfl
     ·rw [a1D o2]at h2 ⊢;simp only [a1C]at h2;have:((if op=3 then some (decide (op=3)) else if op=4 then some (decide (op=4)) else if op=5 then some (decide (op=5)) else if op=6 then some (decide (op=6)) else some (decide (op=7))):Option Bool)=some (decide (3<=op/\op<=7)):=by
       split;· simp_all
       split;· simp_all
       split;· simp_all
       split;· simp_all
       congr 1;rw [decide_eq_decide];omega
      rw [this];simp only [bsm];by_cases o3:3<=op/\op<=7
      ·rw [a1B o3];simp only [a1z];by_cases a:n=0
       ·rw [a1E a,a1A (by omega),dC];rfl
       ·rw [a1D a,dC];rfl
      ·rw [a1A o3,dC];rfl
  ·have hr:exR s d w ⟨op,n,ks⟩= .inr flaw:=by
    unfold exR;rw [a1D];rintro⟨_,g2,g3⟩;rw [hdE]at g2;rw [hnE]at g3;omega
   rw [hr];by_cases h2:w+1<=60
   ·rw [a1E h2,a1A (by omega),dC];rfl
   ·rw [a1D h2,dC];rfl
theorem exp_eq {AA:Nat} {e:AV} {s:Int} (hf:nE e<AA) (hB:nE e<=1000000000):zN AA e s=some (if okE s e=true then .inl () else .inr flaw):=by
 rw [zN,lQ,aET AA e 1 0 s hf hB (by omega) (by omega) (by omega) (by omega)]
 simp only [bsm,exR]
 by_cases h:fE s e=true/\(1:Int)+dE e<=13/\(0:Int)+nE e<=60
 ·grind [okE]
 grind [okE]
theorem aIq {rec:AV->Int->Option Int} {op n most:Int} (hm:-1000000000<=most/\most<=1000000000) (AE:List AV):
 ∀ (AC:List AV) (k:Nat) (w:Int),AE.length<k->AC.length+AE.length<=1000000000->0<=w->w+nL AE<=1000000000->(∀ e∈AE,∀ m:Int,-1000000000<=m->m<=1000000000->∃ v,rec e m=some v/\0<=v/\v<=nE e/\((nE e:Int)<=m->v=nE e)/\(m<nE e->m<v)) ->
  ∃ v,tA rec ⟨op,n,AC++AE⟩ most k w AC.length=some v/\0<=v/\v<=w+nL AE/\(w+(nL AE:Int)<=most->v=w+nL AE)/\(most<w+nL AE->most<v):=by
 induction AE with
 | nil=>
  intro AC k w hk _ h0 _ _;obtain _ | k:=k
  ·omega
  refine⟨w,?_,h0,by simp only [nL];omega,(by grind [nL]),(by grind [nL])⟩
  grind [tA]
 | cons e AE ih=>
  intro AC k w hk hB h0 hW hr;obtain _ | k:=k
  ·omega
  simp only [a0G]at hk hB;simp only [nL]at hW ⊢;rw [tA,a1E (bJ _ _ _)];by_cases hw:w<=most
  ·rw [a1E hw];simp only [bP,bsm,aQ (i:=most - w) (by omega)];obtain⟨v,h1,h2,h3,h4,h5⟩:=hr e (.head _) (most - w) (by omega) (by omega)
   simp only [h1,bsm,aQ (i:=w+v) (by omega),aQ (i:=(AC.length:Int)+1) (by omega)];rw [bR,bE];obtain⟨u,g1,g2,g3,g4,g5⟩:=ih (AC++[e]) k (w+v) (by omega) (by simp;omega) (by omega) (by omega) (by simp_all)
   refine⟨u,g1,g2,by omega,fun h=>?_,fun h=>?_⟩
   ·omega
   omega
  grind
theorem nodes_eq (AA:Nat):∀ (e:AV) (m:Int),nE e<AA->nE e<=1000000000-> -1000000000<=m->m<=1000000000->∃ v,mG AA e m=some v/\0<=v/\v<=nE e/\((nE e:Int)<=m->v=nE e)/\(m<nE e->m<v):=by
 induction AA with
 | zero=>intro e m h;omega
 | succ AA ih=>
  intro ⟨op,n,ks⟩ m hf hB h0 h1
  simp only [nE]at hf hB ⊢;have hlen:=nD ks;obtain⟨v,g1,g2,g3,g4,g5⟩:=aIq (rec:=mG AA) (op:=op) (n:=n) ⟨h0,h1⟩ ks [] AA 1 (by omega) (by simp;omega) (by omega) (by omega)
   (fun e he m h0 h1=>ih e m (by have:=gT he;omega) (by have:=gT he;omega) h0 h1)
  grind [mG]
theorem aI9 {rec:AV->Option Int} {op n:Int} (AE:List AV):
 ∀ (AC:List AV) (k:Nat) (w:Int),AE.length<k->AC.length+AE.length<=1000000000->0<=w->(∀ e∈AE,rec e=some (dE e:Int)) ->
  qE rec ⟨op,n,AC++AE⟩ k w AC.length=some (max w (dL AE:Int)):=by
 induction AE with
 | nil=>
  intro AC k w hk _ h0 _;obtain _ | k:=k
  ·omega
  rw [qE,a1D (by simp)];simp only [dL];congr 1;omega
 | cons e AE ih=>
  intro AC k w hk hB h0 hr;obtain _ | k:=k
  ·omega
  simp only [a0G]at hk hB;rw [qE,a1E (bJ _ _ _)];simp only [bP,bsm,hr e (.head _),aQ (i:=(AC.length:Int)+1) (by omega)];rw [bR,bE,ih (AC++[e]) k _ (by omega) (by simp;omega) (by omega) (fun x hx=>hr x (.tail _ hx))];simp only [dL];congr 1;omega
theorem dE_le:(∀ e,dE e<=nE e)/\∀ l,dL l<=nL l:=by
 refine⟨fun e=>?_,fun l=>?_⟩
 ·exact go e
 ·exact goL l
where
 go:∀ e,dE e<=nE e
  | ⟨_,_,ks⟩=>by have:=goL ks;simp only [dE,nE];omega
 goL:∀ l,dL l<=nL l
  | []=>by simp [dL]
  | k :: ks=>by have:=go k;have:=goL ks;simp only [dL,nL];omega
theorem depth_eq (AA:Nat):∀ (e:AV),nE e<AA->nE e<=1000000000->mI AA e=some (dE e:Int):=by
 induction AA with
 | zero=>intro e h;omega
 | succ AA ih=>
  intro ⟨op,n,ks⟩ hf hB
  simp only [nE]at hf hB;have hlen:=nD ks;have h:=aI9 (rec:=mI AA) (op:=op) (n:=n) ks [] AA 0 (by omega) (by simp;omega) (by omega) (fun e he=>ih e (by have:=gT he;omega) (by have:=gT he;omega))
  simp only [a0X,a0J,a0m]at h;have hd:=dE_le.2 ks
  grind [mI,dE,aQ]
theorem aJ5 (AA:Nat):∀ (e:AV) (s:Int),nE e<AA->pS AA e s=some (fE s e):=by
 induction AA with
 | zero=>intro e s h;omega
 | succ AA ih=>
  intro ⟨op,n,ks⟩ s hf
  simp only [nE]at hf;rw [pS];simp only [fE,loc];by_cases o1:op=1
  ·rw [a1E o1,a1E o1];by_cases c:(ks.length:Int)=0
   ·have hk:ks=[]:=by simp_all
    grind [fL]
   simp_all
  ·rw [a1D o1,a1D o1];by_cases o2:op=2
   ·rw [a1E o2,a1E o2];by_cases c:(ks.length:Int)=0
    ·have hk:ks=[]:=by simp_all
     grind [fL]
    simp_all
   ·rw [a1D o2,a1D o2];by_cases a:op<3
    ·grind
    ·rw [a1D a];by_cases b:7<op
     ·grind
     ·rw [a1D b];by_cases c:(ks.length:Int)≠2
      ·rw [a1E c];simp;intro _ _ _;omega
      ·rw [a1D c];by_cases e:n≠0
       ·rw [a1E e];simp [e]
       ·rw [a1D e];match ks,c,hf with
        | [x,y],_,hf=>
         simp only [nL]at hf;have h1:=ih x s (by omega)
         have h2:=ih y s (by omega)
         have i0:idx [x,y] 0=some x:=rfl;have i1:idx [x,y] 1=some y:=rfl;have:decide (3<=op/\op<=7/\n=0/\[x,y].length=2)=true:=by grind
         grind [fL]
        | [],c,_=>simp at c
        | [_],c,_=>simp at c
        | _ :: _ :: _ :: _,c,_=>simp at c;omega
theorem aEH {AA:Nat} {e:AV} {s:Int} (hf:nE e<AA) (hB:nE e<=1000000000):vA AA e s=some (okE s e):=by
 obtain⟨v,h1,h2,h3,h4,h5⟩:=nodes_eq AA e 60 hf hB (by omega) (by omega)
 rw [vA,lQ,h1,depth_eq AA e hf hB,aJ5 AA e s hf]
 grind [okE]
open Go.SX Go.SW Go.Dt
def gP (n:Nat) (c:Aq):Bool:=decide (0<=c.At/\c.At<=(n:Int)/\0<=c.Ar/\c.Ar<=3)
def kI:Nat->List Ap->Bool
 | _,[]=>true
 | i,s :: l=>decide (0<=s.In/\s.In<=(i:Int)) && kI (i+1) l
def lP (chans:List Aq) (at_:Int):List Int->List Int->List Bool->Option (List Bool)
 | _,[],u=>some u
 | AC,c :: js,u=>match idx chans c with
  | some ch=>if ch.At=at_/\c ∉ AC then lP chans at_ (AC++[c]) js (u.set c.toNat true) else none
  | none=>none
def okR (n:Nat) (r:Ah):Prop:=0<=r.At/\r.At<=(n:Int)/\1<=r.Ad.length/\r.Ad.length<=3
instance {n:Nat} {r:Ah}:Decidable (okR n r):=by unfold okR;infer_instance
def jK (chans:List Aq) (n:Nat):List Ah->List Bool->Option (List Bool)
 | [],u=>some u
 | r :: rs,u=>if okR n r then(lP chans r.At [] r.Ad u).bind (jK chans n rs) else none
def okU (o:Option (List Bool)):Bool:=match o with
 | some u=>u.all id
 | none=>false
def okD (d:AN):Bool:=decide (d.AT.length<=30/\d.AS.length<=30/\d.AQ.length<=30) && d.AT.all (gP d.AS.length) && kI 0 d.AS && okU (jK d.AT d.AS.length d.AQ (List.replicate d.AT.length false))
def smD (d:AN):Prop:=d.AT.length<=2000000/\d.AS.length<=2000000/\d.AQ.length<=2000000/\∀ r∈d.AQ,r.Ad.length<=2000000
theorem gA {α:Type} {xs:List α} {i:Int} (h0:0<=i) (h1:i<xs.length):∃ y,idx xs i=some y:=by
 simp_all [idx]
theorem aEB {α:Type} {xs:List α} {i:Int} (h:¬ (0<=i/\i<xs.length)):idx xs i=none:=by
 grind [idx]
theorem aLI {c:Int} (AE:List Int):∀ (AC:List Int) (k:Nat),AE.length<k->AC.length+AE.length<=3000000->c ∉ AC ->
 ∃ r,pP (AC++AE) c k AC.length=some r/\((c∈AE/\∃ i:Int,r= .inr i/\0<=i)\/(c ∉ AE/\r= .inl ())):=by
 induction AE with
 | nil=>
  intro AC k hk _ _;obtain _ | k:=k
  ·omega
  grind [pP]
 | cons e AE ih=>
  intro AC k hk hB hn;obtain _ | k:=k
  ·omega
  simp only [a0G]at hk hB;by_cases he:c=e
  ·exact⟨_,by rw [pP,a1E (bJ _ _ _),bP,bsm,a1E he];rfl,(by grind)⟩
  ·obtain⟨r,h1,h2⟩:=ih (AC++[e]) k (by omega) (by simp;omega) (by simp [hn,he])
   refine⟨r,?_,?_⟩
   ·rw [pP,a1E (bJ _ _ _),bP,bsm,a1D he,aQ (by omega),bsm,bR AC AE e,bE AC e];exact h1
   grind
theorem aLb {AA:Nat} {l:List Int} {c:Int} (hf:l.length<AA) (hB:l.length<=3000000):aAm AA l c=some (decide (c∈l)):=by
 obtain⟨r,h1,h2⟩:=aLI (c:=c) l [] AA hf (by simpa using hB) (by simp)
 grind [aAm,aAF]
theorem aEE {a:Int} {d:AN}:uT a d=some (if 0<=a/\a<=(d.AS.length:Int)then .inl () else .inr flaw):=by
 rw [uT]
 by_cases h:0<=a
 ·rw [a1E h];by_cases h2:a<=(d.AS.length:Int)
  ·grind [eP]
  grind [dC]
 grind [dC]
theorem dl1 {sp:List Ap} {ru:List Ah} (AE:List Aq):∀ (AC:List Aq) (k:Nat),AE.length<k->AC.length+AE.length<=3000000 ->
 sT ⟨AC++AE,sp,ru⟩ k AC.length=some (if AE.all (gP sp.length)=true then .inl () else .inr (.inr flaw)):=by
 induction AE with
 | nil=>
  intro AC k hk _;obtain _ | k:=k
  ·omega
  grind [sT]
 | cons e AE ih=>
  intro AC k hk hB;obtain _ | k:=k
  ·omega
  simp only [a0G]at hk hB;rw [sT,a1E (bJ _ _ _)];dsimp only
  rw [bP,bsm,aEE,bsm];simp only [List.all_cons,a0g];by_cases h1:0<=e.At/\e.At<=(sp.length:Int)
  ·rw [a1E h1];dsimp only
   by_cases h2:0<=e.Ar
   ·rw [a1E h2];by_cases h3:e.Ar<=3
    ·rw [a1B h3,eP,bsm,bsm];dsimp only
     rw [aQ (by omega),bsm,bR AC AE e,bE AC e,ih (AC++[e]) k (by omega) (by simp;omega)]
     grind [gP]
    ·have hn:¬ (gP sp.length e=true/\AE.all (gP sp.length)=true):=by
      rintro⟨g,_⟩;exact h3 (of_decide_eq_true g).2.2.2
     grind [dC]
   ·have hn:¬ (gP sp.length e=true/\AE.all (gP sp.length)=true):=by
     rintro⟨g,_⟩;exact h2 (of_decide_eq_true g).2.2.1
    grind [dC]
  grind [gP]
theorem dl2 {ch:List Aq} {ru:List Ah} (AE:List Ap):∀ (AC:List Ap) (k:Nat),AE.length<k->AC.length+AE.length<=3000000 ->
 rG ⟨ch,AC++AE,ru⟩ k AC.length=some (if kI AC.length AE=true then .inl () else .inr (.inr flaw)):=by
 induction AE with
 | nil=>
  intro AC k hk _;obtain _ | k:=k
  ·omega
  rw [rG,a1D (by simp),a1E (by rfl)]
 | cons e AE ih=>
  intro AC k hk hB;obtain _ | k:=k
  ·omega
  simp only [a0G]at hk hB;rw [rG,a1E (bJ _ _ _)];dsimp only
  rw [bP,bsm];simp only [kI,a0g,a1C];by_cases h2:0<=e.In
  ·rw [a1E h2];by_cases h3:e.In<=(AC.length:Int)
   ·rw [a1B h3,eP,bsm,bsm];dsimp only
    rw [aQ (by omega),bsm,bR AC AE e,bE AC e,ih (AC++[e]) k (by omega) (by simp;omega)];simp [h2,h3]
   grind [dC]
  grind [dC]
def Like (g:aM Int Bool) (u:List Bool):Prop:=(∀ i:Nat,g.get i=if u[i]? =some true then some true else none)/\g.size=u.countP id
theorem like_upd {g:aM Int Bool} {u:List Bool} {c:Int} (h:Like g u) (h0:0<=c) (h1:c<u.length):Like (aM.upd g c true) (u.set c.toNat true):=by
 obtain⟨n,rfl⟩:∃ n:Nat,c=n:=⟨c.toNat,by omega⟩
 have hn:n<u.length:=by omega
 simp only [a0n]
 refine⟨fun i=>?_,?_⟩
 ·simp only [aM.upd];by_cases hi:(i:Int)=n
  ·grind
  ·rw [a1D hi,h.1 i]
   grind
 ·simp only [aM.upd];rw [h.1 n,List.countP_set (h:=hn),h.2]
  grind
theorem dl4 {ch:List Aq} {sp:List Ap} {ru:List Ah} {a nd:Int} (AE:List Int) {AA:Nat}:∀ (AC:List Int) (k:Nat) (g:aM Int Bool) (u:List Bool),AE.length<k->AC.length+AE.length<AA->AC.length+AE.length<=3000000->u.length=ch.length->Like g u ->
 (∃ u' g',lP ch a AC AE u=some u'/\u'.length=ch.length/\Like g' u'/\mH AA ⟨ch,sp,ru⟩ ⟨a,AC++AE,nd⟩ k AC.length g=some (.inl g')) \/
 (lP ch a AC AE u=none/\mH AA ⟨ch,sp,ru⟩ ⟨a,AC++AE,nd⟩ k AC.length g=some (.inr (.inr (.inr flaw)))):=by
 induction AE with
 | nil=>
  intro AC k g u hk _ _ hl hg;obtain _ | k:=k
  ·omega
  exact .inl ⟨u,g,rfl,hl,hg,by grind [mH]⟩
 | cons e AE ih=>
  intro AC k g u hk hf hB hl hg;obtain _ | k:=k
  ·omega
  simp only [a0G]at hk hB hf;rw [mH,a1E (bJ _ _ _)];dsimp only
  rw [bP,bsm];simp only [lP];by_cases h1:0<=e/\e<(ch.length:Int)
  ·obtain⟨y,hy⟩:=gA h1.1 h1.2;rw [a1E h1.1,a1E h1.2,hy,bsm];dsimp only
   by_cases h2:y.At=a
   ·rw [a1E h2];have hs:slc (AC++e :: AE) 0 AC.length=some AC:=by
     unfold slc;rw [a1E ⟨by omega,by omega,by simp;omega⟩];simp
    rw [hs,bsm,aLb (by omega) (by omega),bsm];by_cases h3:e∈AC
    ·grind [dC]
    ·rw [a1A h3,a1E ⟨h2,h3⟩,show(!false)=true from rfl,eP,bsm,bsm];dsimp only
     rw [aQ (by omega),bsm,bR AC AE e,bE AC e]
     grind [like_upd]
   grind [dC]
  ·rw [aEB h1]
   grind [dC]
theorem dl3 {ch:List Aq} {sp:List Ap} {AA:Nat} (AE:List Ah):∀ (AC:List Ah) (k:Nat) (g:aM Int Bool) (u:List Bool),AE.length<k->AC.length+AE.length<=3000000->2000000<AA->(∀ r∈AE,r.Ad.length<=2000000)->u.length=ch.length->Like g u ->
 (∃ u' g',jK ch sp.length AE u=some u'/\u'.length=ch.length/\Like g' u'/\qB AA ⟨ch,sp,AC++AE⟩ k AC.length g=some (.inl g')) \/
 (jK ch sp.length AE u=none/\qB AA ⟨ch,sp,AC++AE⟩ k AC.length g=some (.inr (.inr flaw))):=by
 induction AE with
 | nil=>
  intro AC k g u hk _ _ _ hl hg;obtain _ | k:=k
  ·omega
  exact .inl ⟨u,g,rfl,hl,hg,by grind [qB]⟩
 | cons e AE ih=>
  intro AC k g u hk hB hf hJ hl hg;obtain _ | k:=k
  ·omega
  simp only [a0G]at hk hB;have hj:=hJ e (.head _);rw [qB,a1E (bJ _ _ _)];dsimp only
  rw [bP,bsm,aEE,bsm];simp only [jK];by_cases h1:0<=e.At/\e.At<=(sp.length:Int)
  ·rw [a1E h1];dsimp only
   by_cases h2:0<(e.Ad.length:Int)
   ·rw [a1E h2];by_cases h3:(e.Ad.length:Int)<=3
    ·rw [a1B h3,eP,bsm,a1E (show okR sp.length e from⟨h1.1,h1.2,by omega,by omega⟩)];have h4:=dl4 (ch:=ch) (sp:=sp) (ru:=AC++e :: AE) (a:=e.At) (nd:=e.AW) e.Ad (AA:=AA) [] AA g u (by omega) (by simp;omega) (by simp;omega) hl hg
     simp only [a0X,a0J,a0m]at h4;rcases h4 with⟨u',g',a1,a2,a3,a4⟩ | ⟨a1,a4⟩
     ·rw [a1,bsm];have:((mH AA ⟨ch,sp,AC++e :: AE⟩ e AA 0 g)=some (.inl g')):=a4;dsimp only
      rw [bsm];dsimp only
      rw [this,bsm];dsimp only
      rw [aQ (by omega),bsm,bR AC AE e,bE AC e]
      grind
     simp_all
    ·rw [a1A h3,dC,a1D (show ¬ okR sp.length e from fun q=>h3 (by have:=q.2.2.2;omega))]
     grind
   ·rw [a1D h2,dC,a1D (show ¬ okR sp.length e from fun q=>h2 (by have:=q.2.2.1;omega))]
    grind
  grind [okR]
theorem def_eq {AA:Nat} {d:AN} (hf:3000000<=AA) (hs:smD d):vD AA d=some (if okD d=true then .inl () else .inr flaw):=by
 obtain⟨ch,sp,ru⟩:=d
 obtain⟨s1,s2,s3,s4⟩:=hs
 dsimp only at s1 s2 s3 s4
 rw [vD]
 dsimp only
 have e1:=dl1 (sp:=sp) (ru:=ru) ch [] AA (by omega) (by simp;omega)
 have e2:=dl2 (ch:=ch) (ru:=ru) sp [] AA (by omega) (by simp;omega)
 have e3:=dl3 (ch:=ch) (sp:=sp) (AA:=AA) ru [] AA aM.none (List.replicate ch.length false) (by omega) (by simp;omega) (by omega) s4 (by simp) ⟨fun i=>by simp [aM.none,List.getElem?_replicate],by simp [aM.none,List.countP_replicate]⟩
 simp only [a0X,a0J,a0m]at e1 e2 e3
 by_cases l1:ch.length<=30
 ·rw [a1E (by omega)];by_cases l2:sp.length<=30
  ·rw [a1E (by omega)];by_cases l3:ru.length<=30
   ·rw [a1B (by omega),eP,bsm,bsm];dsimp only
    rw [e1,bsm];have hok:okD ⟨ch,sp,ru⟩=(ch.all (gP sp.length) && kI 0 sp && okU (jK ch sp.length ru (List.replicate ch.length false))):=by
     grind [okD]
    rw [hok];cases h1:ch.all (gP sp.length)with
    | false=>simp
    | true=>
     simp only [if_true,a0l];rw [e2,bsm];cases h2:kI 0 sp with
     | false=>simp
     | true=>
      simp only [if_true,a0l];rcases e3 with⟨u,g,a1,a2,a3,a4⟩ | ⟨a1,a4⟩
      ·rw [a4,bsm];dsimp only
       rw [a1];have hc:((g.size:Int)=(ch.length:Int)) ↔ okU (some u)=true:=by
        show _ ↔ u.all id=true
        rw [a3.2,<- a2,a0o]
        grind [List.countP_eq_length]
       by_cases hh:(g.size:Int)=(ch.length:Int)
       ·grind [eP]
       grind [dC]
      grind [okU]
   ·rw [a1A (by omega),dC,a1D];rfl
    grind [okD]
  ·rw [a1D (by omega),dC,a1D];rfl
   grind [okD]
 ·rw [a1D (by omega),dC,a1D];rfl
  grind [okD]
theorem rl1 {sp:List Ap} {ru:List Ah} (AE:List Aq):∀ (AC:List Aq) (k:Nat),AE.length<k->AC.length+AE.length<=3000000 ->
 qK ⟨AC++AE,sp,ru⟩ k AC.length=some (if AE.all (gP sp.length)=true then .inl () else .inr false):=by
 induction AE with
 | nil=>
  intro AC k hk _;obtain _ | k:=k
  ·omega
  rw [qK,a1D (by simp),a1E (by rfl)]
 | cons e AE ih=>
  intro AC k hk hB;obtain _ | k:=k
  ·omega
  simp only [a0G]at hk hB;have hall:(e :: AE).all (gP sp.length)=(gP sp.length e && AE.all (gP sp.length)):=rfl;rw [qK,a1E (bJ _ _ _),hall];dsimp only
  rw [bP,bsm];by_cases hc:gP sp.length e=true
  ·obtain⟨c1,c2,c3,c4⟩:=of_decide_eq_true hc;rw [a1D (by omega),bsm,a1D (by omega),bsm,a1D (by omega),bsm,a1D (by omega),aQ (by omega),bsm,bR AC AE e,bE AC e,ih (AC++[e]) k (by omega) (by simp;omega),hc,a0l]
  ·have hf:gP sp.length e=false:=by simpa using hc
   rw [hf,Bool.false_and,a1D (show ¬ (false=true)from a0i)];have hd:¬ (0<=e.At/\e.At<=(sp.length:Int)/\0<=e.Ar/\e.Ar<=3):=of_decide_eq_false hf;by_cases c1:e.At<0
   ·rw [a1E c1];rfl
   ·rw [a1D c1,bsm];by_cases c2:(sp.length:Int)<e.At
    ·rw [a1E c2];rfl
    ·rw [a1D c2,bsm];by_cases c3:e.Ar<0
     ·rw [a1E c3];rfl
     ·rw [a1D c3,bsm,a1E (by omega)];rfl
theorem rl2 {ch:List Aq} {ru:List Ah} (AE:List Ap):∀ (AC:List Ap) (k:Nat),AE.length<k->AC.length+AE.length<=3000000 ->
 sE ⟨ch,AC++AE,ru⟩ k AC.length=some (if kI AC.length AE=true then .inl () else .inr false):=by
 induction AE with
 | nil=>
  intro AC k hk _;obtain _ | k:=k
  ·omega
  rw [sE,a1D (by simp),a1E (by rfl)]
 | cons e AE ih=>
  intro AC k hk hB;obtain _ | k:=k
  ·omega
  simp only [a0G]at hk hB;have hall:kI AC.length (e :: AE)=(decide (0<=e.In/\e.In<=(AC.length:Int)) && kI (AC.length+1) AE):=rfl;rw [sE,a1E (bJ _ _ _),hall];dsimp only
  rw [bP,bsm];by_cases hc:0<=e.In/\e.In<=(AC.length:Int)
  ·have hp:(AC++[e]).length=AC.length+1:=by simp
   rw [a1D (by omega),bsm,a1D (by omega),aQ (by omega),bsm,bR AC AE e,bE AC e,ih (AC++[e]) k (by omega) (by simp;omega),a1B hc,a0l,hp]
  grind
theorem rl5 {a nd c:Int} {js:List Int} (AE:List Int):∀ (AC:List Int) (k:Nat) (post:List Int),js=AC++AE++post->AE.length<k->AC.length+AE.length<=3000000 ->
 qF ⟨a,js,nd⟩ (AC.length+AE.length:Nat) c k AC.length=some (if c∈AE then .inr (.inr (.inr (.inr false))) else .inl ()):=by
 induction AE with
 | nil=>
  intro AC k post _ hk _;obtain _ | k:=k
  ·omega
  grind [qF]
 | cons e AE ih=>
  intro AC k post hj hk hB;obtain _ | k:=k
  ·omega
  simp only [a0G]at hk hB;have hi:idx js (AC.length:Int)=some e:=by grind [idx]
  rw [qF,a1E (by simp;omega)];dsimp only
  rw [hi,bsm];by_cases hc:e=c
  ·grind
  ·have h:=ih (AC++[e]) k post (by simp [hj]) (by omega) (by simp;omega)
   have hl:(AC++[e]).length+AE.length=AC.length+(e :: AE).length:=by simp;omega
   rw [hl]at h;have hm:(c∈e :: AE) ↔ c∈AE:=by simp [Ne.symm hc]
   grind [chk]
theorem rl4 {ch:List Aq} {sp:List Ap} {ru:List Ah} {a nd:Int} (AE:List Int) {AA:Nat}:∀ (AC:List Int) (k:Nat) (u:List Bool),AE.length<k->AC.length+AE.length<AA->AC.length+AE.length<=3000000->u.length=ch.length ->
 (∃ u',lP ch a AC AE u=some u'/\u'.length=ch.length/\nI AA ⟨ch,sp,ru⟩ ⟨a,AC++AE,nd⟩ k u AC.length=some (.inl u')) \/
 (lP ch a AC AE u=none/\nI AA ⟨ch,sp,ru⟩ ⟨a,AC++AE,nd⟩ k u AC.length=some (.inr (.inr false))):=by
 induction AE with
 | nil=>
  intro AC k u hk _ _ hl;obtain _ | k:=k
  ·omega
  exact .inl ⟨u,rfl,hl,by grind [nI]⟩
 | cons e AE ih=>
  intro AC k u hk hf hB hl;obtain _ | k:=k
  ·omega
  simp only [a0G]at hk hB hf;rw [nI,a1E (bJ _ _ _)];dsimp only
  rw [bP,bsm];simp only [lP];by_cases h1:0<=e/\e<(ch.length:Int)
  ·obtain⟨y,hy⟩:=gA h1.1 h1.2;obtain⟨b,hb⟩:=gA (xs:=u) h1.1 (by omega)
   rw [hy,a1D (show ¬ e<0 by omega),a1D (show ¬ (ch.length:Int)<=e by omega),bsm];dsimp only
   by_cases h2:y.At=a
   ·have h5:=rl5 (a:=a) (nd:=nd) (c:=e) (js:=AC++e :: AE) AC [] AA (e :: AE) (by simp) (by omega) (by simp;omega)
    simp only [a0J,a1n,a0m]at h5;rw [a1D (show ¬ (y.At≠a)from fun q=>q h2),h5,bsm];by_cases h3:e∈AC
    ·grind
    ·rw [a1D h3,a1E (show y.At=a/\e ∉ AC from⟨h2,h3⟩)];dsimp only
     rw [hb,bsm,bsm];dsimp only
     rw [aQ (by omega),bsm,bR AC AE e,bE AC e]
     grind
   grind
  grind [idx]
theorem rl3 {ch:List Aq} {sp:List Ap} {AA:Nat} (AE:List Ah):∀ (AC:List Ah) (k:Nat) (u:List Bool),AE.length<k->AC.length+AE.length<=3000000->2000000<AA->(∀ r∈AE,r.Ad.length<=2000000)->u.length=ch.length ->
 (∃ u',jK ch sp.length AE u=some u'/\u'.length=ch.length/\nY AA ⟨ch,sp,AC++AE⟩ k u AC.length=some (.inl u')) \/
 (jK ch sp.length AE u=none/\nY AA ⟨ch,sp,AC++AE⟩ k u AC.length=some (.inr false)):=by
 induction AE with
 | nil=>
  intro AC k u hk _ _ _ hl;obtain _ | k:=k
  ·omega
  exact .inl ⟨u,rfl,hl,by grind [nY]⟩
 | cons e AE ih=>
  intro AC k u hk hB hf hJ hl;obtain _ | k:=k
  ·omega
  simp only [a0G]at hk hB;have hj:=hJ e (.head _);rw [nY,a1E (bJ _ _ _)];dsimp only
  rw [bP,bsm];simp only [jK];by_cases h1:okR sp.length e
  ·obtain⟨c1,c2,c3,c4⟩:=h1;rw [a1E (show okR sp.length e from⟨c1,c2,c3,c4⟩),a1D (show ¬ e.At<0 by omega),a1D (by omega),a1D (by omega),a1D (by omega)];have h4:=rl4 (ch:=ch) (sp:=sp) (ru:=AC++e :: AE) (a:=e.At) (nd:=e.AW) e.Ad (AA:=AA) [] AA u (by omega) (by simp;omega) (by simp;omega) hl
   simp only [a0X,a0J,a0m]at h4;rcases h4 with⟨u',a1,a2,a4⟩ | ⟨a1,a4⟩
   ·have:((nI AA ⟨ch,sp,AC++e :: AE⟩ e AA u 0)=some (.inl u')):=a4;rw [a1,bsm,this,bsm];dsimp only
    rw [aQ (by omega),bsm,bR AC AE e,bE AC e]
    grind
   simp_all
  grind [okR]
theorem rl6 (AE:List Bool):∀ (AC:List Bool) (k:Nat),AE.length<k->AC.length+AE.length<=3000000->sI (AC++AE) k AC.length=some (if AE.all id=true then .inl () else .inr false):=by
 induction AE with
 | nil=>
  intro AC k hk _;obtain _ | k:=k
  ·omega
  grind [sI]
 | cons e AE ih=>
  intro AC k hk hB;obtain _ | k:=k
  ·omega
  simp only [a0G]at hk hB;rw [sI,a1E (bJ _ _ _),bP,bsm];cases e with
  | false=>
   grind
  | true=>
   rw [a1z,aQ (by omega),bsm,bR AC AE true,bE AC true,ih (AC++[true]) k (by omega) (by simp;omega),show(true :: AE).all id=AE.all id from by simp]
theorem rdef_eq {AA:Nat} {d:AN} (hf:3000000<=AA) (hs:smD d):zQ AA d=some (okD d):=by
 obtain⟨ch,sp,ru⟩:=d
 obtain⟨s1,s2,s3,s4⟩:=hs
 dsimp only at s1 s2 s3 s4
 rw [zQ]
 dsimp only
 have e1:=rl1 (sp:=sp) (ru:=ru) ch [] AA (by omega) (by simp;omega)
 have e2:=rl2 (ch:=ch) (ru:=ru) sp [] AA (by omega) (by simp;omega)
 have e3:=rl3 (ch:=ch) (sp:=sp) (AA:=AA) ru [] AA (List.replicate ch.length false) (by omega) (by simp;omega) (by omega) s4 (by simp)
 simp only [a0X,a0J,a0m]at e1 e2 e3
 have hmk:mk false (ch.length:Int)=some (List.replicate ch.length false):=by grind [mk]
 have hok:okD ⟨ch,sp,ru⟩=(decide (ch.length<=30/\sp.length<=30/\ru.length<=30) && ch.all (gP sp.length) && kI 0 sp && okU (jK ch sp.length ru (List.replicate ch.length false))):=rfl
 by_cases l1:30<ch.length
 ·grind
 ·rw [a1D (by omega)];by_cases l2:30<sp.length
  ·grind
  ·rw [a1D (by omega)];by_cases l3:30<ru.length
   ·grind
   ·rw [a1D (by omega),e1,bsm,hok,a1B (by omega)];cases h1:ch.all (gP sp.length)with
    | false=>simp
    | true=>
     simp only [if_true,a0l];rw [e2,bsm];cases h2:kI 0 sp with
     | false=>simp
     | true=>
      simp only [if_true,a0l];rw [hmk,bsm];rcases e3 with⟨u,a1,a2,a4⟩ | ⟨a1,a4⟩
      ·have h6:=rl6 u [] AA (by omega) (by simp;omega)
       grind [okU]
      grind [okU]
open Go.SX Go.SW Go.Dt
structure VS where
 sz:List Int
 AR:List Bool
 Ab:List Bool
def shp (op:Int):Option (Nat × Nat):=
 if op=1\/op=7 then some (0,0) else if op=3 then some (2,0) else if op=2 then some (0,1) else if op=5 then some (2,2) else if op=6\/op=8 then some (1,3) else if op=4 then some (1,4) else none
def okM (p:AJ) (s:VS) (x:AZ) (size:Int):Nat->Prop
 | 0=>x.N=0/\x.AX.length=0
 | 1=>(0<=x.N/\x.N<size)/\x.AX.length<=3
 | 2=>x.N=0/\x.AX.length=1
 | 3=>(0<=x.N/\x.N<size)/\x.AX.length=0
 | _=>(0<=x.N/\x.N<(p.AD.length:Int)/\idx s.Ab x.N=some false)/\x.AX.length=0
def okN (p:AJ) (s:VS) (x:AZ) (size:Int):Prop:=(∃ k c,shp x.Op=some (k,c)/\x.AM.length=k/\okM p s x size c)/\x.AX.all (okE size)=true
def own (d:AN):Int:=(d.AT.length:Int)+(d.AS.length:Int)
def brs (ch:List Aq):List Int->Int
 | []=>0
 | c :: js=>(match idx ch c with | some y=>y.Ar | none=>0)+brs ch js
def cS (g:VS->Int->Int->Option VS):VS->List (Int × Int)->Option VS
 | s,[]=>some s
 | s,x :: l=>(g s x.1 x.2).bind fun s=>cS g s l
open Classical in
noncomputable def vis (p:AJ):Nat->VS->Int->Int->Option VS
 | 0,_,_,_=>none
 | f+1,s,n,size=>
  if 0<=n/\n<(p.AB.length:Int)/\idx s.AR n=some false then
   (idx p.AB n).bind fun x=>
   if okN p s x size then
    if x.Op=4 then
     (idx p.AD x.N).bind fun d=>
     if okD d=true then
      (cS (vis p f) ⟨s.sz.set n.toNat size,s.AR.set n.toNat true,s.Ab.set x.N.toNat true⟩ (d.AQ.map fun r=>(r.AW,size+own d+brs d.AT r.Ad))).bind fun s1=>
      (cS (vis p f) s1 (d.AS.map fun y=>(y.AW,size+own d))).bind fun s2=>
      cS (vis p f) s2 (x.AM.map fun k=>(k,size+own d))
     else none
    else cS (vis p f) ⟨s.sz.set n.toNat size,s.AR.set n.toNat true,s.Ab⟩ (x.AM.map fun k=>(k,size))
   else none
  else none
def unm (s:VS):Nat:=s.AR.countP (fun b=>!b)
structure WS (p:AJ) (s:VS):Prop where
 sz:s.sz.length=p.AB.length
 AR:s.AR.length=p.AB.length
 Ab:s.Ab.length=p.AD.length
structure SmP (p:AJ):Prop where
 nodes:p.AB.length<=2000000
 Ae:p.AD.length<=2000000
 free:p.AF.length<=2000000
 names:∀ x∈p.AF,x.size<=2000000
 args:∀ x∈p.AB,x.AX.length<=2000000/\x.AM.length<=2000000/\∀ e∈x.AX,nE e<=2000000
 Ab:∀ d∈p.AD,smD d
theorem eG {α:Type} {xs:List α} {i:Int} {y:α} (h:idx xs i=some y):y∈xs:=a0V (dN h)
theorem aHE {ch:List Aq} {a:Int}:∀ (js AC:List Int) (u u':List Bool),lP ch a AC js u=some u'->∀ c∈js,∃ y,idx ch c=some y
 | [],_,_,_,_,c,h=>by cases h
 | e :: js,AC,u,u',h,c,hc=>by
  simp only [lP]at h;cases he:idx ch e with
  | none=>rw [he]at h;cases h
  | some y=>
   rw [he]at h;dsimp only at h
   split at h
   ·cases hc with
    | head=>exact⟨y,he⟩
    | tail _ hc=>exact aHE js _ _ _ h c hc
   ·cases h
theorem aFC {ch:List Aq} {n:Nat}:∀ (rs:List Ah) (u u':List Bool),jK ch n rs u=some u'->∀ r∈rs,okR n r/\∀ c∈r.Ad,∃ y,idx ch c=some y
 | [],_,_,_,r,h=>by cases h
 | e :: rs,u,u',h,r,hr=>by
  simp only [jK]at h;split at h
  ·rename_i h1;obtain⟨u1,h2,h3⟩:=bind_some h;cases hr with
   | head=>grind [aHE]
   | tail _ hr=>exact aFC rs _ _ h3 r hr
  ·cases h
theorem gO {d:AN} (h:okD d=true):d.AT.length<=30/\d.AS.length<=30/\d.AQ.length<=30/\(∀ c∈d.AT,0<=c.Ar/\c.Ar<=3)/\∀ r∈d.AQ,r.Ad.length<=3/\∀ c∈r.Ad,∃ y,idx d.AT c=some y/\0<=y.Ar/\y.Ar<=3:=by
 simp only [okD,a0g,a1C]at h
 obtain⟨⟨⟨h1,h2⟩,h3⟩,h4⟩:=h
 have hm:∀ c∈d.AT,0<=c.Ar/\c.Ar<=3:=fun c hc=>by
  have:=of_decide_eq_true (a0o.1 h2 c hc);exact⟨this.2.2.1,this.2.2.2⟩
 refine⟨h1.1,h1.2.1,h1.2.2,hm,fun r hr=>?_⟩
 cases hu:jK d.AT d.AS.length d.AQ (List.replicate d.AT.length false)with
 | none=>rw [hu]at h4;cases h4
 | some u=>
  obtain⟨g1,g2⟩:=aFC _ _ _ hu r hr;exact⟨g1.2.2.2,fun c hc=>let ⟨y,hy⟩:=g2 c hc;⟨y,hy,hm y (eG hy)⟩⟩
theorem tG {ch:List Aq}:∀ {js:List Int},(∀ c∈js,∃ y,idx ch c=some y/\0<=y.Ar/\y.Ar<=3)->0<=brs ch js/\brs ch js<=3*js.length
 | [],_=>by simp [brs]
 | c :: js,h=>by
  obtain⟨y,h1,h2,h3⟩:=h c (.head _);have:=tG (js:=js) fun c hc=>h c (.tail _ hc)
  grind [brs]
theorem aKo {ch:List Aq} {sp:List Ap} {ru:List Ah} {a nd:Int} (AE:List Int):∀ (AC:List Int) (k:Nat) (w:Int),AE.length<k->AC.length+AE.length<=1000->0<=w->w<=100000->(∀ c∈AE,∃ y,idx ch c=some y/\0<=y.Ar/\y.Ar<=3)->w+3*AE.length<=100000 ->
 sP ⟨ch,sp,ru⟩ ⟨a,AC++AE,nd⟩ k w AC.length=some (w+brs ch AE):=by
 induction AE with
 | nil=>
  intro AC k w hk _ _ _ _ _;obtain _ | k:=k
  ·omega
  rw [sP,a1D (by simp)];simp [brs]
 | cons e AE ih=>
  intro AC k w hk hB h0 h1 hm hw;obtain _ | k:=k
  ·omega
  simp only [a0G]at hk hB hw;obtain⟨y,g1,g2,g3⟩:=hm e (.head _);rw [sP,a1E (bJ _ _ _)];dsimp only
  rw [bP,bsm,g1,bsm,aQ (by omega),bsm,aQ (by omega),bsm,bR AC AE e,bE AC e,ih (AC++[e]) k _ (by omega) (by simp;omega) (by omega) (by omega) (by grind) (by omega)]
  grind [brs]
theorem aJu {AA:Nat} {d:AN} {r:Ah} (hf:3000<=AA) (h:okD d=true) (hr:r∈d.AQ):zJ AA d r=some (brs d.AT r.Ad):=by
 obtain⟨_,_,_,_,h5⟩:=gO h
 obtain⟨g1,g2⟩:=h5 r hr
 have:=aKo (ch:=d.AT) (sp:=d.AS) (ru:=d.AQ) (a:=r.At) (nd:=r.AW) r.Ad [] AA 0 (by omega) (by simp;omega) (by omega) (by omega) g2 (by omega)
 simp_all [zJ]
def jI (p:AJ) (o:Option VS):Af ⊕ Value:=match o with
 | some s=> .inl ⟨p,s.sz,s.AR,s.Ab⟩
 | none=> .inr flaw
structure Vis (p:AJ) (f:Nat) (rec:Af->Int->Int->Option (Af ⊕ Value)):Prop where
 run:∀ (s:VS) (n z:Int),WS p s->unm s<=f->0<=z->z+80*f<=100000->rec ⟨p,s.sz,s.AR,s.Ab⟩ n z=some (jI p (vis p f s n z))
structure VisO (p:AJ) (f:Nat):Prop where
 out:∀ (s:VS) (n z:Int) (s':VS),WS p s->unm s<=f->vis p f s n z=some s'->WS p s'/\unm s'+1<=unm s
theorem lH {p:AJ} {f:Nat} (h:VisO p f):∀ (l:List (Int × Int)) (s s':VS),WS p s->unm s<=f->cS (vis p f) s l=some s'->WS p s'/\unm s'<=unm s
 | [],s,s',hs,_,e=>by cases e;exact⟨hs,a1k _⟩
 | x :: l,s,s',hs,hu,e=>by
  obtain⟨s1,e1,e2⟩:=bind_some e;obtain⟨h1,h2⟩:=h.out _ _ _ _ hs hu e1;obtain⟨h3,h4⟩:=lH h l s1 s' h1 (by omega) e2
  exact⟨h3,by omega⟩
section
variable {p:AJ} {f:Nat} {rec:Af->Int->Int->Option (Af ⊕ Value)}
theorem ln4 (hv:Vis p f rec) (ho:VisO p f) {op nn:Int} {ar:List AV} {z:Int} (hz:0<=z/\z+80*f<=100000) (AE:List Int):∀ (AC:List Int) (k:Nat) (s:VS),AE.length<k->AC.length+AE.length<=3000000->WS p s->unm s<=f ->
 pY rec ⟨op,nn,ar,AC++AE⟩ z k AC.length p.AF p.AB p.AD p.AG s.sz s.AR s.Ab=some (jI p (cS (vis p f) s (AE.map fun k=>(k,z)))):=by
 induction AE with
 | nil=>
  intro AC k s hk _ hs hu;obtain _ | k:=k
  ·omega
  rw [pY,a1D (by simp)];rfl
 | cons e AE ih=>
  intro AC k s hk hB hs hu;obtain _ | k:=k
  ·omega
  simp only [a0G]at hk hB;rw [pY,a1E (bJ _ _ _)];dsimp only
  rw [bP,bsm];have h1:=hv.run s e z hs hu hz.1 hz.2;rw [show(⟨⟨p.AF,p.AB,p.AD,p.AG⟩,s.sz,s.AR,s.Ab⟩:Af)=⟨p,s.sz,s.AR,s.Ab⟩from rfl,h1,bsm];simp only [a0N,cS];cases hc:vis p f s e z with
  | none=>rfl
  | some s1=>
   obtain⟨h2,h3⟩:=ho.out _ _ _ _ hs hu hc;simp only [jI];rw [aQ (by omega),bsm,bR AC AE e,bE AC e,bsm];exact ih (AC++[e]) k s1 (by omega) (by simp;omega) h2 (by omega)
theorem ln3 (hv:Vis p f rec) (ho:VisO p f) {ch:List Aq} {ru:List Ah} {z:Int} (hz:0<=z/\z+80*f<=100000) (AE:List Ap):∀ (AC:List Ap) (k:Nat) (s:VS),AE.length<k->AC.length+AE.length<=3000000->WS p s->unm s<=f ->
 oS rec ⟨ch,AC++AE,ru⟩ z k AC.length p.AF p.AB p.AD p.AG s.sz s.AR s.Ab=some (match cS (vis p f) s (AE.map fun y=>(y.AW,z))with
  | some s'=> .inl (z,p.AF,p.AB,p.AD,p.AG,s'.sz,s'.AR,s'.Ab)
  | none=> .inr (.inr flaw)):=by
 induction AE with
 | nil=>
  intro AC k s hk _ hs hu;obtain _ | k:=k
  ·omega
  rw [oS,a1D (by simp)];rfl
 | cons e AE ih=>
  intro AC k s hk hB hs hu;obtain _ | k:=k
  ·omega
  simp only [a0G]at hk hB;rw [oS,a1E (bJ _ _ _)];dsimp only
  rw [bP,bsm];have h1:=hv.run s e.AW z hs hu hz.1 hz.2;rw [show(⟨⟨p.AF,p.AB,p.AD,p.AG⟩,s.sz,s.AR,s.Ab⟩:Af)=⟨p,s.sz,s.AR,s.Ab⟩from rfl,h1,bsm];simp only [a0N,cS];cases hc:vis p f s e.AW z with
  | none=>rfl
  | some s1=>
   obtain⟨h2,h3⟩:=ho.out _ _ _ _ hs hu hc;simp only [jI]
   grind [aQ,bR,bE]
theorem ln2 (hv:Vis p f rec) (ho:VisO p f) {AA:Nat} {d:AN} (hd:okD d=true) (hf:3000<=AA) {z:Int} (hz:0<=z/\z+9+80*f<=100000) (AE:List Ah):∀ (AC:List Ah) (k:Nat) (s:VS),d.AQ=AC++AE->AE.length<k->AC.length+AE.length<=3000000->WS p s->unm s<=f ->
 oR AA rec d z k AC.length p.AF p.AB p.AD p.AG s.sz s.AR s.Ab=some (match cS (vis p f) s (AE.map fun r=>(r.AW,z+brs d.AT r.Ad))with
  | some s'=> .inl (p.AF,p.AB,p.AD,p.AG,s'.sz,s'.AR,s'.Ab)
  | none=> .inr (.inr (.inr flaw))):=by
 induction AE with
 | nil=>
  intro AC k s he hk _ hs hu;obtain _ | k:=k
  ·omega
  rw [oR,he,a1D (by simp)];rfl
 | cons e AE ih=>
  intro AC k s he hk hB hs hu;obtain _ | k:=k
  ·omega
  simp only [a0G]at hk hB;have hmem:e∈d.AQ:=by rw [he];simp
  obtain⟨_,_,_,_,h5⟩:=gO hd;obtain⟨g1,g2⟩:=h5 e hmem;have hb:=tG g2;rw [oR,he,a1E (bJ _ _ _),<- he,show idx d.AQ (AC.length:Int)=some e from by grind [idx],bsm,
   show(⟨e.At,e.Ad,e.AW⟩:Ah)=e from rfl,show(⟨d.AT,d.AS,d.AQ⟩:AN)=d from rfl,aJu hf hd hmem,bsm,aQ (by omega),bsm]
  have h1:=hv.run s e.AW (z+brs d.AT e.Ad) hs hu (by omega) (by omega)
  rw [show(⟨⟨p.AF,p.AB,p.AD,p.AG⟩,s.sz,s.AR,s.Ab⟩:Af)=⟨p,s.sz,s.AR,s.Ab⟩from rfl,h1,bsm];simp only [a0N,cS];cases hc:vis p f s e.AW (z+brs d.AT e.Ad)with
  | none=>rfl
  | some s1=>
   obtain⟨h2,h3⟩:=ho.out _ _ _ _ hs hu hc;simp only [jI];rw [aQ (by omega),bsm,bE AC e,bsm]
   grind
end
theorem ln1 {AA:Nat} (hf:3000000<=AA) {op nn:Int} {ks:List Int} {z:Int} (AE:List AV):∀ (AC:List AV) (k:Nat),AE.length<k->AC.length+AE.length<=3000000->(∀ e∈AE,nE e<=2000000) ->
 oM AA z ⟨op,nn,AC++AE,ks⟩ k AC.length=some (if AE.all (okE z)=true then .inl () else .inr (.inr flaw)):=by
 induction AE with
 | nil=>
  intro AC k hk _ _;obtain _ | k:=k
  ·omega
  grind [oM]
 | cons e AE ih=>
  intro AC k hk hB he;obtain _ | k:=k
  ·omega
  simp only [a0G]at hk hB;have hn:=he e (.head _);rw [oM,a1E (bJ _ _ _),show(e :: AE).all (okE z)=(okE z e && AE.all (okE z))from rfl];dsimp only
  rw [bP,bsm,lQ,exp_eq (by omega) (by omega),bsm];cases h1:okE z e with
  | false=>rfl
  | true=>
   rw [a0l,a1E rfl]
   grind [aQ,bR,bE]
open Go.SX Go.SW Go.Dt
theorem aCL {s:VS} {p:AJ} {n:Int} {z:Int} {Ab:List Bool} (h0:0<=n) (hm:idx s.AR n=some false):unm ⟨s.sz.set n.toNat z,s.AR.set n.toNat true,Ab⟩+1=unm s:=by
 obtain⟨j,rfl,hj,hlt⟩:=kL hm
 simp only [unm,a0n]
 rw [List.countP_set (h:=hlt)]
 have hv:s.AR[j]=false:=by
  have:=a0y hlt;rw [hj]at this;exact(a1u this).symm
 have hpos:0<s.AR.countP (fun b=>!b):=List.countP_pos_iff.2 ⟨s.AR[j],List.getElem_mem hlt,by rw [hv];rfl⟩
 rw [hv];simp;omega
theorem rU {p:AJ} {s:VS} (h:WS p s) {i j:Nat} {z:Int}:WS p ⟨s.sz.set i z,s.AR.set i true,s.Ab⟩/\WS p ⟨s.sz.set i z,s.AR.set i true,s.Ab.set j true⟩:=
 ⟨⟨by simp [h.sz],by simp [h.AR],h.Ab⟩,⟨by simp [h.sz],by simp [h.AR],by simp [h.Ab]⟩⟩
theorem kM (p:AJ) (f:Nat):VisO p f:=by
 induction f with
 | zero=>exact⟨fun s n z s' _ _ h=>by simp [vis]at h⟩
 | succ f ih=>
  refine⟨fun s n z s' hs hu h=>?_⟩
  simp only [vis]at h;split at h
  ·rename_i hc;obtain⟨x,_,h⟩:=bind_some h;have hun:=fun Ab=>aCL (p:=p) (z:=z) (Ab:=Ab) hc.1 hc.2.2
   split at h
   ·split at h
    ·obtain⟨d,_,h⟩:=bind_some h;split at h
     ·obtain⟨s1,e1,h⟩:=bind_some h;obtain⟨s2,e2,e3⟩:=bind_some h;have:=hun (s.Ab.set x.N.toNat true);obtain⟨a1,a2⟩:=lH ih _ _ _ (rU hs).2 (by omega) e1
      obtain⟨b1,b2⟩:=lH ih _ _ _ a1 (by omega) e2
      obtain⟨c1,c2⟩:=lH ih _ _ _ b1 (by omega) e3
      exact⟨c1,by omega⟩
     ·cases h
    ·have:=hun s.Ab;obtain⟨a1,a2⟩:=lH ih _ _ _ (rU hs (j:=0)).1 (by omega) h
     exact⟨a1,by omega⟩
   ·cases h
  ·cases h
def kT (AA:Nat) (a0:Af) (a1 a2:Int) (y7:AZ) (x2:Int):Option (Af ⊕ Value):=
 (bZ (decide ((y7.AX.length:Int)=x2))).bind fun y26=>
 match y26 with
 | Sum.inr pv15=>some (Sum.inr pv15)
 | Sum.inl _=>
 (oM AA a2 y7 AA 0).bind fun o=>match o with
 | Sum.inr r=>some r
 | Sum.inl _=>
 (if y7.Op=4 then
  (idx a0.Ae y7.N).bind fun _=>
  (idx a0.p.AD y7.N).bind fun y30=>
  (vD AA (⟨y30.AT,y30.AS,y30.AQ⟩:AN)).bind fun y31=>
  match y31 with
  | Sum.inr pv17=>(some (Sum.inr pv17)).bind fun r=>some (Sum.inr r)
  | Sum.inl _=>
  (wR (⟨y30.AT,y30.AS,y30.AQ⟩:AN)).bind fun y32=>
  (chk (a2+y32)).bind fun z2=>
  (oR AA (fP AA) y30 z2 AA 0 a0.p.AF a0.p.AB a0.p.AD a0.p.AG (a0.Aa.set a1.toNat a2) (a0.AR.set a1.toNat true) (a0.Ae.set y7.N.toNat true)).bind fun o=>match o with
  | Sum.inr r=>some r
  | Sum.inl (x17,x18,x19,x20,x21,x22,x23)=>
  oS (fP AA) y30 z2 AA 0 x17 x18 x19 x20 x21 x22 x23
 else
  some (Sum.inl (a2,a0.p.AF,a0.p.AB,a0.p.AD,a0.p.AG,a0.Aa.set a1.toNat a2,a0.AR.set a1.toNat true,a0.Ae))).bind fun o=>match o with
 | Sum.inr r=>some r
 | Sum.inl (x9,x10,x11,x12,x13,x14,x15,x16)=>
 pY (fP AA) y7 x9 AA 0 x10 x11 x12 x13 x14 x15 x16
theorem own_eq {d:AN} (h:d.AT.length<=2000000) (h2:d.AS.length<=2000000):wR d=some (own d):=by
 rw [wR,aQ (by omega),bsm];rfl
section
variable {p:AJ} {f m:Nat}
noncomputable def rest (p:AJ) (f:Nat) (s:VS) (n z:Int) (x:AZ):Option VS:=
 if x.Op=4 then
  (idx p.AD x.N).bind fun d=>
  if okD d=true then
   (cS (vis p f) ⟨s.sz.set n.toNat z,s.AR.set n.toNat true,s.Ab.set x.N.toNat true⟩ (d.AQ.map fun r=>(r.AW,z+own d+brs d.AT r.Ad))).bind fun s1=>
   (cS (vis p f) s1 (d.AS.map fun y=>(y.AW,z+own d))).bind fun s2=>
   cS (vis p f) s2 (x.AM.map fun k=>(k,z+own d))
  else none
 else cS (vis p f) ⟨s.sz.set n.toNat z,s.AR.set n.toNat true,s.Ab⟩ (x.AM.map fun k=>(k,z))
theorem tail_bad {a0:Af} {n z:Int} {x:AZ} {x2:Int} (h:¬ (x.AX.length:Int)=x2):kT m a0 n z x x2=some (.inr flaw):=by
 rw [kT,a1A h,dC];rfl
theorem tail_eq (hp:SmP p) (hm:3000000<=m) (hv:Vis p f (fP m)) {s:VS} (hs:WS p s) {n z:Int} {x:AZ} (hx:x∈p.AB) (hun:∀ Ab,unm ⟨s.sz.set n.toNat z,s.AR.set n.toNat true,Ab⟩<=f) (hz:0<=z/\z+69+80*f<=100000)
 (hN:x.Op=4->0<=x.N/\x.N<(p.AD.length:Int)) {x2:Int} (h2:(x.AX.length:Int)=x2):
 kT m ⟨p,s.sz,s.AR,s.Ab⟩ n z x x2=some (jI p (if x.AX.all (okE z)=true then rest p f s n z x else none)):=by
 obtain⟨op,nn,ar,ks⟩:=x
 obtain⟨g1,g2,g3⟩:=hp.args _ hx
 dsimp only at g1 g2 g3 h2 hN
 have ho:=kM p f
 rw [kT,a1B h2,eP,bsm]
 dsimp only
 have e1:=ln1 (AA:=m) hm (op:=op) (nn:=nn) (ks:=ks) (z:=z) ar [] m (by omega) (by simp;omega) g3
 simp only [a0X,a0J,a0m]at e1
 rw [e1,bsm]
 cases hall:ar.all (okE z)with
 | false=>rfl
 | true=>
  rw [a1E rfl,a1E rfl];dsimp only
  by_cases h4:op=4
  ·subst h4;obtain⟨n0,n1⟩:=hN rfl;obtain⟨d,hd⟩:=gA n0 n1;obtain⟨b,hb⟩:=gA (xs:=s.Ab) n0 (by rw [hs.Ab];exact n1)
   have hsm:=hp.Ab d (eG hd);have hres:rest p f s n z ⟨4,nn,ar,ks⟩=if okD d=true then
    (cS (vis p f) ⟨s.sz.set n.toNat z,s.AR.set n.toNat true,s.Ab.set nn.toNat true⟩ (d.AQ.map fun r=>(r.AW,z+own d+brs d.AT r.Ad))).bind fun s1=>
    (cS (vis p f) s1 (d.AS.map fun y=>(y.AW,z+own d))).bind fun s2=>cS (vis p f) s2 (ks.map fun k=>(k,z+own d))
    else none:=by
    rw [rest,a1E rfl];dsimp only;rw [hd,bsm]
   rw [hres,a1E rfl,hb,bsm,hd,bsm,show(⟨d.AT,d.AS,d.AQ⟩:AN)=d from rfl,def_eq hm hsm,bsm];cases hok:okD d with
   | false=>rfl
   | true=>
    rw [a1E rfl,a1E rfl];dsimp only
    obtain⟨k1,k2,k3,_,_⟩:=gO hok;have hown:0<=own d/\own d<=60:=by unfold own;omega
    rw [own_eq (by omega) (by omega),bsm,aQ (by omega),bsm];have e2:=ln2 hv ho (AA:=m) hok (by omega) (z:=z+own d) ⟨by omega,by omega⟩ d.AQ [] m ⟨s.sz.set n.toNat z,s.AR.set n.toNat true,s.Ab.set nn.toNat true⟩ rfl (by omega) (by simp;omega) (rU hs).2 (hun _)
    simp only [a0J,a0m]at e2;rw [e2,bsm];cases c2:cS (vis p f) ⟨s.sz.set n.toNat z,s.AR.set n.toNat true,s.Ab.set nn.toNat true⟩ (d.AQ.map fun r=>(r.AW,z+own d+brs d.AT r.Ad))with
    | none=>rfl
    | some s1=>
     obtain⟨w1,u1⟩:=lH ho _ _ _ (rU hs).2 (hun _) c2;have hu1:=hun (s.Ab.set nn.toNat true);dsimp only
     rw [bsm];have e3:=ln3 hv ho (ch:=d.AT) (ru:=d.AQ) (z:=z+own d) ⟨by omega,by omega⟩ d.AS [] m s1 (by omega) (by simp;omega) w1 (by omega)
     simp only [a0X,a0J,a0m]at e3;rw [show(⟨d.AT,d.AS,d.AQ⟩:AN)=d from rfl]at e3;rw [e3,bsm];cases c3:cS (vis p f) s1 (d.AS.map fun y=>(y.AW,z+own d))with
     | none=>rfl
     | some s2=>
      obtain⟨w2,u2⟩:=lH ho _ _ _ w1 (by omega) c3
      dsimp only
      rw [bsm];have e4:=ln4 hv ho (op:=4) (nn:=nn) (ar:=ar) (z:=z+own d) ⟨by omega,by omega⟩ ks [] m s2 (by omega) (by simp;omega) w2 (by omega)
      simp only [a0X,a0J,a0m]at e4;exact e4
  ·rw [a1D h4,bsm];dsimp only
   have hres:rest p f s n z ⟨op,nn,ar,ks⟩=cS (vis p f) ⟨s.sz.set n.toNat z,s.AR.set n.toNat true,s.Ab⟩ (ks.map fun k=>(k,z)):=by
    rw [rest,a1D h4]
   rw [hres];have e4:=ln4 hv ho (op:=op) (nn:=nn) (ar:=ar) (z:=z) ⟨by omega,by omega⟩ ks [] m ⟨s.sz.set n.toNat z,s.AR.set n.toNat true,s.Ab⟩ (by omega) (by simp;omega) (rU hs (j:=0)).1 (hun _)
   simp only [a0X,a0J,a0m]at e4;exact e4
theorem aGu {s:VS} (hs:WS p s) {n z:Int} (h:¬ (0<=n/\n<(p.AB.length:Int)/\idx s.AR n=some false)):fP (m+1) ⟨p,s.sz,s.AR,s.Ab⟩ n z=some (.inr flaw):=by
 rw [fP]
 by_cases h0:0<=n
 ·rw [a1E h0];by_cases h1:n<(p.AB.length:Int)
  ·obtain⟨b,hb⟩:=gA (xs:=s.AR) h0 (by rw [hs.AR];exact h1)
   dsimp only
   rw [a1E h1,hb,bsm];cases b with
   | false=>exact absurd ⟨h0,h1,hb⟩ h
   | true=>rfl
  ·dsimp only
   rw [a1D h1,dC];rfl
 ·rw [a1D h0,dC];rfl
end
open Go.SX Go.SW Go.Dt
theorem aIW {op:Int} (h:op=1\/op=7):iJ op=some (.iface 235 (.int .i64 0)):=by
 rcases h with rfl | rfl <;> rfl
theorem aKi:iJ 3=some (.iface 235 (.int .i64 2)):=rfl
theorem aKm:iJ 2=some (.iface 207 (.agg ⟨[]⟩)):=rfl
theorem aJb:iJ 5=some (.iface 236 (.agg ⟨[]⟩)):=rfl
theorem aJ7 {op:Int} (h:op=6\/op=8):iJ op=some (.iface 208 (.agg ⟨[]⟩)):=by
 rcases h with rfl | rfl <;> rfl
theorem aKF:iJ 4=some (.iface 237 (.agg ⟨[]⟩)):=rfl
theorem aGl {op:Int} (h:shp op=none):iJ op=some .nilIface:=by
 unfold shp at h
 grind [iJ]
def iT (m:Nat) (a0:Af) (a1 a2:Int) (y7:AZ) (y8:Value):Option (Af ⊕ Value):=
 ((iU y8).bind fun x1=>
 bif !x1 then
  (kX y8).bind fun y9=>
  (bZ (decide ((y7.AM.length:Int)=y9))).bind fun y10=>
  match y10 with
  | Sum.inr pv4=>(some (Sum.inr pv4)).bind fun r=>some (Sum.inr r)
  | Sum.inl _=>
  some (Sum.inl ())
 else
  (bZ false).bind fun y11=>
  match y11 with
  | Sum.inr pv5=>(some (Sum.inr pv5)).bind fun r=>some (Sum.inr r)
  | Sum.inl _=>
  some (Sum.inl ())).bind fun o=>match o with
 | Sum.inr r=>some r
 | Sum.inl _=>
 ((eA 207 (.agg #[]) y8).bind fun y12=>
 match y12 with
 | (_,x3)=>
 bif x3 then
  if 0<=y7.N then
   (bZ (decide (y7.N<a2))).bind fun y13=>
   match y13 with
   | Sum.inr pv6=>(some (Sum.inr pv6)).bind fun r=>some (Sum.inr r)
   | Sum.inl _=>
   some (Sum.inl (min (y7.AX.length:Int) 3))
  else
   (bZ false).bind fun y14=>
   match y14 with
   | Sum.inr pv7=>(some (Sum.inr pv7)).bind fun r=>some (Sum.inr r)
   | Sum.inl _=>
   some (Sum.inl (min (y7.AX.length:Int) 3))
 else
  (eA 208 (.agg #[]) y8).bind fun y15=>
  match y15 with
  | (_,x4)=>
  bif x4 then
   if 0<=y7.N then
    (bZ (decide (y7.N<a2))).bind fun y16=>
    match y16 with
    | Sum.inr pv8=>(some (Sum.inr pv8)).bind fun r=>some (Sum.inr r)
    | Sum.inl _=>
    some (Sum.inl 0)
   else
    (bZ false).bind fun y17=>
    match y17 with
    | Sum.inr pv9=>(some (Sum.inr pv9)).bind fun r=>some (Sum.inr r)
    | Sum.inl _=>
    some (Sum.inl 0)
  else
   (eA 237 (.agg #[]) y8).bind fun y18=>
   match y18 with
   | (_,x5)=>
   bif x5 then
    if 0<=y7.N then
     if y7.N<(a0.p.AD.length:Int)then
      (idx a0.Ae y7.N).bind fun y19=>
      (bZ (!y19)).bind fun y20=>
      match y20 with
      | Sum.inr pv10=>(some (Sum.inr pv10)).bind fun r=>some (Sum.inr r)
      | Sum.inl _=>
      some (Sum.inl 0)
     else
      (bZ false).bind fun y21=>
      match y21 with
      | Sum.inr pv11=>(some (Sum.inr pv11)).bind fun r=>some (Sum.inr r)
      | Sum.inl _=>
      some (Sum.inl 0)
    else
     (bZ false).bind fun y22=>
     match y22 with
     | Sum.inr pv12=>(some (Sum.inr pv12)).bind fun r=>some (Sum.inr r)
     | Sum.inl _=>
     some (Sum.inl 0)
   else
    (eA 236 (.agg #[]) y8).bind fun y23=>
    match y23 with
    | (_,x6)=>
    bif x6 then
     (bZ (decide (y7.N=0))).bind fun y24=>
     match y24 with
     | Sum.inr pv13=>(some (Sum.inr pv13)).bind fun r=>some (Sum.inr r)
     | Sum.inl _=>
     some (Sum.inl 1)
    else
     (bZ (decide (y7.N=0))).bind fun y25=>
     match y25 with
     | Sum.inr pv14=>(some (Sum.inr pv14)).bind fun r=>some (Sum.inr r)
     | Sum.inl _=>
     some (Sum.inl 0)).bind fun o=>match o with
 | Sum.inr r=>some r
 | Sum.inl x2=>kT m a0 a1 a2 y7 x2
section
variable {p:AJ} {f m:Nat}
theorem rQ {s:VS} (hs:WS p s) {n z:Int} {x:AZ} (h:0<=n/\n<(p.AB.length:Int)/\idx s.AR n=some false) (hx:idx p.AB n=some x) {v:Value} (hv:iJ x.Op=some v):
 fP (m+1) ⟨p,s.sz,s.AR,s.Ab⟩ n z=iT m ⟨p,s.sz,s.AR,s.Ab⟩ n z x v:=by
 obtain⟨h0,h1,h2⟩:=h
 obtain⟨b,hb⟩:=gA (xs:=s.sz) h0 (by rw [hs.sz];exact h1)
 rw [fP,a1E h0]
 dsimp only
 rw [a1E h1,h2,bsm,show(!false)=true from rfl,eP,bsm,bsm]
 dsimp only
 rw [bsm,hb,bsm,hx,bsm,hv,bsm]
 rfl
theorem mid_nil {a0:Af} {n z:Int} {x:AZ}:iT m a0 n z x .nilIface=some (.inr flaw):=rfl
theorem xD {a0:Af} {n z:Int} {x:AZ} {v:Value} {k:Int} (hn:iU v=some false) (hk:kX v=some k) (h:¬ (x.AM.length:Int)=k):iT m a0 n z x v=some (.inr flaw):=by
 rw [iT,hn,bsm,show(!false)=true from rfl,a1z,hk,bsm,a1A h,dC];rfl
theorem aGV {a0:Af} {n z:Int} {x:AZ} {k:Int} (h:(x.AM.length:Int)=k):iT m a0 n z x (.iface 235 (.int .i64 k))=if x.N=0 then kT m a0 n z x 0 else some (.inr flaw):=by
 rw [iT,show iU (.iface 235 (.int .i64 k))=some false from rfl,bsm,show(!false)=true from rfl,a1z,show kX (.iface 235 (.int .i64 k))=some k from rfl,bsm,a1B h,eP,bsm,bsm]
 dsimp only
 rw [show eA 207 (.agg #[]) (.iface 235 (.int .i64 k))=some (.agg #[],false)from rfl,bsm]
 dsimp only
 rw [a1y,show eA 208 (.agg #[]) (.iface 235 (.int .i64 k))=some (.agg #[],false)from rfl,bsm]
 dsimp only
 rw [a1y,show eA 237 (.agg #[]) (.iface 235 (.int .i64 k))=some (.agg #[],false)from rfl,bsm]
 dsimp only
 rw [a1y,show eA 236 (.agg #[]) (.iface 235 (.int .i64 k))=some (.agg #[],false)from rfl,bsm]
 dsimp only
 rw [a1y]
 by_cases h0:x.N=0
 ·grind [eP]
 grind [dC]
theorem aJc {a0:Af} {n z:Int} {x:AZ} (h:(x.AM.length:Int)=0):iT m a0 n z x (.iface 207 (.agg ⟨[]⟩))=if 0<=x.N/\x.N<z then kT m a0 n z x (min (x.AX.length:Int) 3) else some (.inr flaw):=by
 rw [iT,show iU (.iface 207 (.agg ⟨[]⟩))=some false from rfl,bsm,show(!false)=true from rfl,a1z,show kX (.iface 207 (.agg ⟨[]⟩))=some 0 from rfl,bsm,a1B h,eP,bsm,bsm]
 dsimp only
 rw [show eA 207 (.agg #[]) (.iface 207 (.agg ⟨[]⟩))=some (.agg #[],true)from rfl,bsm]
 dsimp only
 rw [a1z]
 by_cases h0:0<=x.N
 ·rw [a1E h0];by_cases h1:x.N<z
  ·grind [eP]
  grind [dC]
 grind [dC]
theorem aK6 {a0:Af} {n z:Int} {x:AZ} (h:(x.AM.length:Int)=1):iT m a0 n z x (.iface 208 (.agg ⟨[]⟩))=if 0<=x.N/\x.N<z then kT m a0 n z x 0 else some (.inr flaw):=by
 rw [iT,show iU (.iface 208 (.agg ⟨[]⟩))=some false from rfl,bsm,show(!false)=true from rfl,a1z,show kX (.iface 208 (.agg ⟨[]⟩))=some 1 from rfl,bsm,a1B h,eP,bsm,bsm]
 dsimp only
 rw [show eA 207 (.agg #[]) (.iface 208 (.agg ⟨[]⟩))=some (.agg #[],false)from rfl,bsm]
 dsimp only
 rw [a1y,show eA 208 (.agg #[]) (.iface 208 (.agg ⟨[]⟩))=some (.agg #[],true)from rfl,bsm]
 dsimp only
 rw [a1z]
 by_cases h0:0<=x.N
 ·rw [a1E h0];by_cases h1:x.N<z
  ·grind [eP]
  grind [dC]
 grind [dC]
theorem aJB {a0:Af} {n z:Int} {x:AZ} (h:(x.AM.length:Int)=2):iT m a0 n z x (.iface 236 (.agg ⟨[]⟩))=if x.N=0 then kT m a0 n z x 1 else some (.inr flaw):=by
 rw [iT,show iU (.iface 236 (.agg ⟨[]⟩))=some false from rfl,bsm,show(!false)=true from rfl,a1z,show kX (.iface 236 (.agg ⟨[]⟩))=some 2 from rfl,bsm,a1B h,eP,bsm,bsm]
 dsimp only
 rw [show eA 207 (.agg #[]) (.iface 236 (.agg ⟨[]⟩))=some (.agg #[],false)from rfl,bsm]
 dsimp only
 rw [a1y,show eA 208 (.agg #[]) (.iface 236 (.agg ⟨[]⟩))=some (.agg #[],false)from rfl,bsm]
 dsimp only
 rw [a1y,show eA 237 (.agg #[]) (.iface 236 (.agg ⟨[]⟩))=some (.agg #[],false)from rfl,bsm]
 dsimp only
 rw [a1y,show eA 236 (.agg #[]) (.iface 236 (.agg ⟨[]⟩))=some (.agg #[],true)from rfl,bsm]
 dsimp only
 rw [a1z]
 by_cases h0:x.N=0
 ·grind [eP]
 grind [dC]
theorem aJh {s:VS} (hs:WS p s) {n z:Int} {x:AZ} (h:(x.AM.length:Int)=1):iT m ⟨p,s.sz,s.AR,s.Ab⟩ n z x (.iface 237 (.agg ⟨[]⟩))=if 0<=x.N/\x.N<(p.AD.length:Int)/\idx s.Ab x.N=some false then kT m ⟨p,s.sz,s.AR,s.Ab⟩ n z x 0 else some (.inr flaw):=by
 rw [iT,show iU (.iface 237 (.agg ⟨[]⟩))=some false from rfl,bsm,show(!false)=true from rfl,a1z,show kX (.iface 237 (.agg ⟨[]⟩))=some 1 from rfl,bsm,a1B h,eP,bsm,bsm]
 dsimp only
 rw [show eA 207 (.agg #[]) (.iface 237 (.agg ⟨[]⟩))=some (.agg #[],false)from rfl,bsm]
 dsimp only
 rw [a1y,show eA 208 (.agg #[]) (.iface 237 (.agg ⟨[]⟩))=some (.agg #[],false)from rfl,bsm]
 dsimp only
 rw [a1y,show eA 237 (.agg #[]) (.iface 237 (.agg ⟨[]⟩))=some (.agg #[],true)from rfl,bsm]
 dsimp only
 rw [a1z]
 by_cases h0:0<=x.N
 ·rw [a1E h0];by_cases h1:x.N<(p.AD.length:Int)
  ·obtain⟨b,hb⟩:=gA (xs:=s.Ab) h0 (by rw [hs.Ab];exact h1)
   rw [a1E h1,hb,bsm];cases b with
   | false=>rw [a1E ⟨h0,h1,rfl⟩];rfl
   | true=>rw [a1D (fun q=>by cases q.2.2)];rfl
  grind [dC]
 grind [dC]
theorem vis_go {s:VS} {n z:Int} {x:AZ} (h:0<=n/\n<(p.AB.length:Int)/\idx s.AR n=some false) (hx:idx p.AB n=some x):(okN p s x z->vis p (f+1) s n z=rest p f s n z x)/\(¬ okN p s x z->vis p (f+1) s n z=none):=by
 constructor
 ·intro ho;simp only [vis];rw [a1E h,hx,bsm,a1E ho];rfl
 grind [vis]
theorem node_go (hp:SmP p) (hm:3000000<=m) (hv:Vis p f (fP m)) {s:VS} (hs:WS p s) {n z:Int} (hu:unm s<=f+1) (hz:0<=z/\z+69+80*f<=100000) (h:0<=n/\n<(p.AB.length:Int)/\idx s.AR n=some false):
 fP (m+1) ⟨p,s.sz,s.AR,s.Ab⟩ n z=some (jI p (vis p (f+1) s n z)):=by
 obtain⟨x,hx⟩:=gA h.1 h.2.1
 obtain⟨v1,v2⟩:=vis_go (f:=f) (z:=z) h hx
 have hun:∀ Ab,unm ⟨s.sz.set n.toNat z,s.AR.set n.toNat true,Ab⟩<=f:=fun Ab=>by
  have:=aCL (p:=p) (z:=z) (Ab:=Ab) h.1 h.2.2;omega
 have hN:∀ {c k:Nat},shp x.Op=some (k,c)->okM p s x z c->x.Op=4->0<=x.N/\x.N<(p.AD.length:Int):=fun {c k} h1 h2 h4=>by
  rw [h4]at h1;have:(1,4)=(k,c):=a1u h1;cases this;exact⟨h2.1.1,h2.1.2.1⟩
 have fin:∀ {k c:Nat} (x2:Int),shp x.Op=some (k,c)->(x.AM.length:Int)=k->((x.AX.length:Int)=x2->okM p s x z c)->(okM p s x z c->(x.AX.length:Int)=x2)->kT m ⟨p,s.sz,s.AR,s.Ab⟩ n z x x2=some (jI p (vis p (f+1) s n z)):=fun {k c} x2 h1 h2 h3 h4=>by
  by_cases ha:(x.AX.length:Int)=x2
  ·rw [tail_eq hp hm hv hs (eG hx) hun hz (hN h1 (h3 ha)) ha];congr 2
   by_cases hall:x.AX.all (okE z)=true
   ·rw [a1E hall,v1 ⟨⟨k,c,h1,by omega,h3 ha⟩,hall⟩]
   ·rw [a1D hall,v2 (fun q=>hall q.2)]
  ·rw [tail_bad ha,v2];rfl
   rintro⟨⟨k',c',g1,_,g3⟩,_⟩
   grind
 have bad:∀ {k c:Nat},shp x.Op=some (k,c)->¬ ((x.AM.length:Int)=k/\okM p s x z c)->some (jI p (vis p (f+1) s n z))=some (.inr flaw):=fun {k c} h1 h2=>by
  rw [v2];rfl
  rintro⟨⟨k',c',g1,g2,g3⟩,_⟩
  grind
 by_cases o1:x.Op=1\/x.Op=7
 ·have hsh:shp x.Op=some (0,0):=by grind [shp]
  rw [rQ hs h hx (aIW o1)];by_cases hk:(x.AM.length:Int)=0
  ·rw [aGV hk];by_cases hn:x.N=0
   ·rw [a1E hn];exact fin 0 hsh hk (fun q=>⟨hn,by omega⟩) (fun q=>by have:=q.2;omega)
   ·rw [a1D hn,bad hsh (fun q=>hn q.2.1)]
  ·rw [xD rfl rfl hk,bad hsh (fun q=>hk q.1)]
 ·by_cases o3:x.Op=3
  ·have hsh:shp x.Op=some (2,0):=by grind [shp]
   rw [rQ hs h hx (by rw [o3];exact aKi)];by_cases hk:(x.AM.length:Int)=2
   ·rw [aGV hk];by_cases hn:x.N=0
    ·rw [a1E hn];exact fin 0 hsh hk (fun q=>⟨hn,by omega⟩) (fun q=>by have:=q.2;omega)
    ·rw [a1D hn,bad hsh (fun q=>hn q.2.1)]
   ·rw [xD rfl rfl hk,bad hsh (fun q=>hk q.1)]
  ·by_cases o2:x.Op=2
   ·have hsh:shp x.Op=some (0,1):=by grind [shp]
    rw [rQ hs h hx (by rw [o2];exact aKm)];by_cases hk:(x.AM.length:Int)=0
    ·rw [aJc hk];by_cases hn:0<=x.N/\x.N<z
     ·rw [a1E hn];exact fin _ hsh hk (fun q=>⟨hn,by omega⟩) (fun q=>by have:=q.2;omega)
     ·rw [a1D hn,bad hsh (fun q=>hn q.2.1)]
    ·rw [xD rfl rfl hk,bad hsh (fun q=>hk q.1)]
   ·by_cases o5:x.Op=5
    ·have hsh:shp x.Op=some (2,2):=by grind [shp]
     rw [rQ hs h hx (by rw [o5];exact aJb)];by_cases hk:(x.AM.length:Int)=2
     ·rw [aJB hk];by_cases hn:x.N=0
      ·rw [a1E hn];exact fin 1 hsh hk (fun q=>⟨hn,by omega⟩) (fun q=>by have:=q.2;omega)
      ·rw [a1D hn,bad hsh (fun q=>hn q.2.1)]
     ·rw [xD rfl rfl hk,bad hsh (fun q=>hk q.1)]
    ·by_cases o6:x.Op=6\/x.Op=8
     ·have hsh:shp x.Op=some (1,3):=by grind [shp]
      rw [rQ hs h hx (aJ7 o6)];by_cases hk:(x.AM.length:Int)=1
      ·rw [aK6 hk];by_cases hn:0<=x.N/\x.N<z
       ·rw [a1E hn];exact fin 0 hsh hk (fun q=>⟨hn,by omega⟩) (fun q=>by have:=q.2;omega)
       ·rw [a1D hn,bad hsh (fun q=>hn q.2.1)]
      ·rw [xD rfl rfl hk,bad hsh (fun q=>hk q.1)]
     ·by_cases o4:x.Op=4
      ·have hsh:shp x.Op=some (1,4):=by grind [shp]
       rw [rQ hs h hx (by rw [o4];exact aKF)];by_cases hk:(x.AM.length:Int)=1
       ·rw [aJh hs hk];by_cases hn:0<=x.N/\x.N<(p.AD.length:Int)/\idx s.Ab x.N=some false
        ·rw [a1E hn];exact fin 0 hsh hk (fun q=>⟨hn,by omega⟩) (fun q=>by have:=q.2;omega)
        ·rw [a1D hn,bad hsh (fun q=>hn q.2.1)]
       ·rw [xD rfl rfl hk,bad hsh (fun q=>hk q.1)]
      ·have hsh:shp x.Op=none:=by grind [shp]
       rw [rQ hs h hx (aGl hsh),mid_nil,v2];rfl
       rintro⟨⟨k',c',g1,_⟩,_⟩
       rw [hsh]at g1;cases g1
end
theorem aAT {p:AJ} {f:Nat} {s:VS} {n z:Int} (h:¬ (0<=n/\n<(p.AB.length:Int)/\idx s.AR n=some false)):vis p f s n z=none:=by
 cases f with
 | zero=>rfl
 | succ f=>grind [vis]
theorem aG1 {s:VS} {n:Int} (h:idx s.AR n=some false):0<unm s:=List.countP_pos_iff.2 ⟨false,eG h,rfl⟩
theorem pvis {p:AJ} (hp:SmP p) {b:Nat} (hb:3000000<=b) (f:Nat):Vis p f (fP (b+f+1)):=by
 induction f with
 | zero=>
  refine⟨fun s n z hs hu h0 h1=>?_⟩
  have h:¬ (0<=n/\n<(p.AB.length:Int)/\idx s.AR n=some false):=by grind [aG1]
  rw [aGu hs h,aAT h];rfl
 | succ f ih=>
  refine⟨fun s n z hs hu h0 h1=>?_⟩
  by_cases h:0<=n/\n<(p.AB.length:Int)/\idx s.AR n=some false
  ·grind [node_go]
  ·rw [aGu hs h,aAT h];rfl
open Go.SX Go.SW Go.Dt
def ob (l:List Bool):List Int:=l.map fun b=>if b=true then 1 else 0
theorem lE {l:List Bool}:(ob l).length=l.length:=by simp [ob]
theorem aDt {l:List Bool} {i:Int} {b:Bool} (h:idx l i=some b):idx (ob l) i=some (if b=true then 1 else 0):=by
 obtain⟨j,rfl,hj,_⟩:=kL h
 exact nZ (by simp [ob,hj])
theorem ob_set {l:List Bool} {i:Nat}:ob (l.set i true)=(ob l).set i 1:=by simp [ob,List.map_set]
theorem ob_rep {n:Nat}:ob (List.replicate n false)=List.replicate n 0:=by simp [ob]
def ROut (p:AJ) (o:Option VS) (L:Aj):Prop:=match o with
 | some s=>L=⟨p,s.sz,ob s.AR,ob s.Ab,false⟩
 | none=>L.bad=true/\L.Am.length=p.AB.length/\L.Al.length=p.AD.length
structure RVis (p:AJ) (f:Nat) (rec:Aj->Int->Int->Option Aj):Prop where
 run:∀ (s:VS) (n z:Int),WS p s->unm s<=f->0<=z->z+80*f<=100000->∃ L,rec ⟨p,s.sz,ob s.AR,ob s.Ab,false⟩ n z=some L/\ROut p (vis p f s n z) L
theorem aJV {ch:List Aq} {sp:List Ap} {ru:List Ah} {a nd:Int} (AE:List Int):∀ (AC:List Int) (k:Nat) (w:Int),AE.length<k->AC.length+AE.length<=1000->0<=w->w<=100000->(∀ c∈AE,∃ y,idx ch c=some y/\0<=y.Ar/\y.Ar<=3)->w+3*AE.length<=100000 ->
 tF ⟨ch,sp,ru⟩ ⟨a,AC++AE,nd⟩ k w AC.length=some (w+brs ch AE):=by
 induction AE with
 | nil=>
  intro AC k w hk _ _ _ _ _;obtain _ | k:=k
  ·omega
  rw [tF,a1D (by simp)];simp [brs]
 | cons e AE ih=>
  intro AC k w hk hB h0 h1 hm hw;obtain _ | k:=k
  ·omega
  simp only [a0G]at hk hB hw;obtain⟨y,g1,g2,g3⟩:=hm e (.head _);rw [tF,a1E (bJ _ _ _)];dsimp only
  rw [bP,bsm,g1,bsm,aQ (by omega),bsm,aQ (by omega),bsm,bR AC AE e,bE AC e,ih (AC++[e]) k _ (by omega) (by simp;omega) (by omega) (by omega) (fun c hc=>hm c (.tail _ hc)) (by omega)];simp only [brs,g1];congr 1;omega
theorem more_eq {AA:Nat} {d:AN} {r:Ah} (hf:3000<=AA) (h:okD d=true) (hr:r∈d.AQ):yG AA d r=some (brs d.AT r.Ad):=by
 obtain⟨_,_,_,_,h5⟩:=gO h
 obtain⟨g1,g2⟩:=h5 r hr
 have:=aJV (ch:=d.AT) (sp:=d.AS) (ru:=d.AQ) (a:=r.At) (nd:=r.AW) r.Ad [] AA 0 (by omega) (by simp;omega) (by omega) (by omega) g2 (by omega)
 simp only [a0X,a0J,a0m]at this
 rw [yG,this,bsm];congr 1;omega
theorem pA {rec:Aj->Int->Int->Option Aj} {y:AZ} {z i:Int} {k:Nat} {a:List ByteArray} {b:List AZ} {c:List AN} {d:Int} {sz ow us:List Int}:
 kG rec y z (k+1) i a b c d sz ow us true=some ⟨⟨a,b,c,d⟩,sz,ow,us,true⟩:=by
 rw [kG];split
 ·rw [a1z]
 ·rfl
theorem d1_bad {AA:Nat} {rec:Aj->Int->Int->Option Aj} {y:AN} {z i:Int} {k:Nat} {a:List ByteArray} {b:List AZ} {c:List AN} {d:Int} {sz ow us:List Int}:
 mF AA rec y z (k+1) i a b c d sz ow us true=some (a,b,c,d,sz,ow,us,true):=by
 rw [mF];split
 ·rw [a1z]
 ·rfl
theorem aDX {rec:Aj->Int->Int->Option Aj} {y:AN} {z i:Int} {k:Nat} {a:List ByteArray} {b:List AZ} {c:List AN} {d:Int} {sz ow us:List Int}:
 mC rec y z (k+1) i a b c d sz ow us true=some ⟨⟨a,b,c,d⟩,sz,ow,us,true⟩:=by
 rw [mC];split
 ·rw [a1z]
 ·rfl
section
variable {p:AJ} {f:Nat} {rec:Aj->Int->Int->Option Aj}
theorem rk2 (hv:RVis p f rec) {op nn:Int} {ar:List AV} {z:Int} (hz:0<=z/\z+80*f<=100000) (AE:List Int):∀ (AC:List Int) (k:Nat) (s:VS),AE.length<k->AC.length+AE.length<=3000000->WS p s->unm s<=f ->
 ∃ L,kG rec ⟨op,nn,ar,AC++AE⟩ z k AC.length p.AF p.AB p.AD p.AG s.sz (ob s.AR) (ob s.Ab) false=some L/\ROut p (cS (vis p f) s (AE.map fun k=>(k,z))) L:=by
 induction AE with
 | nil=>
  intro AC k s hk _ hs hu;obtain _ | k:=k
  ·omega
  exact⟨_,by rw [kG,a1D (by simp)],rfl⟩
 | cons e AE ih=>
  intro AC k s hk hB hs hu;obtain _ | k:=k
  ·omega
  simp only [a0G]at hk hB;obtain⟨L,h1,h2⟩:=hv.run s e z hs hu hz.1 hz.2;rw [kG,a1E (bJ _ _ _),a1y];dsimp only
  rw [bP,bsm,show(⟨⟨p.AF,p.AB,p.AD,p.AG⟩,s.sz,ob s.AR,ob s.Ab,false⟩:Aj)=⟨p,s.sz,ob s.AR,ob s.Ab,false⟩from rfl,h1,bsm,aQ (by omega),bsm,bR AC AE e,bE AC e];simp only [a0N,cS];cases hc:vis p f s e z with
  | none=>
   rw [hc]at h2;obtain⟨g1,g2,g3⟩:=h2;obtain _ | k:=k
   ·omega
   rw [g1,pA];exact⟨_,rfl,rfl,g2,g3⟩
  | some s1=>
   rw [hc]at h2;have h2:L=_:=h2;subst h2;obtain⟨w1,u1⟩:=(kM p f).out _ _ _ _ hs hu hc;rw [bsm];exact ih (AC++[e]) k s1 (by omega) (by simp;omega) w1 (by omega)
theorem rd2 (hv:RVis p f rec) {ch:List Aq} {ru:List Ah} {z:Int} (hz:0<=z/\z+80*f<=100000) (AE:List Ap):∀ (AC:List Ap) (k:Nat) (s:VS),AE.length<k->AC.length+AE.length<=3000000->WS p s->unm s<=f ->
 ∃ L,mC rec ⟨ch,AC++AE,ru⟩ z k AC.length p.AF p.AB p.AD p.AG s.sz (ob s.AR) (ob s.Ab) false=some L/\ROut p (cS (vis p f) s (AE.map fun y=>(y.AW,z))) L:=by
 induction AE with
 | nil=>
  intro AC k s hk _ hs hu;obtain _ | k:=k
  ·omega
  exact⟨_,by rw [mC,a1D (by simp)],rfl⟩
 | cons e AE ih=>
  intro AC k s hk hB hs hu;obtain _ | k:=k
  ·omega
  simp only [a0G]at hk hB;obtain⟨L,h1,h2⟩:=hv.run s e.AW z hs hu hz.1 hz.2;rw [mC,a1E (bJ _ _ _),a1y];dsimp only
  rw [bP,bsm,show(⟨⟨p.AF,p.AB,p.AD,p.AG⟩,s.sz,ob s.AR,ob s.Ab,false⟩:Aj)=⟨p,s.sz,ob s.AR,ob s.Ab,false⟩from rfl,h1,bsm,aQ (by omega),bsm,bR AC AE e,bE AC e];simp only [a0N,cS];cases hc:vis p f s e.AW z with
  | none=>
   rw [hc]at h2;obtain⟨g1,g2,g3⟩:=h2;obtain _ | k:=k
   ·omega
   rw [g1,aDX];exact⟨_,rfl,rfl,g2,g3⟩
  | some s1=>
   rw [hc]at h2;have h2:L=_:=h2;subst h2;obtain⟨w1,u1⟩:=(kM p f).out _ _ _ _ hs hu hc;rw [bsm];exact ih (AC++[e]) k s1 (by omega) (by simp;omega) w1 (by omega)
abbrev T8:=List ByteArray × List AZ × List AN × Int × List Int × List Int × List Int × Bool
def ROut8 (p:AJ) (o:Option VS) (t:T8):Prop:=match o with
 | some s=>t=(p.AF,p.AB,p.AD,p.AG,s.sz,ob s.AR,ob s.Ab,false)
 | none=>t.2.2.2.2.2.2.2=true/\t.2.2.2.2.2.1.length=p.AB.length/\t.2.2.2.2.2.2.1.length=p.AD.length
theorem rd1 (hv:RVis p f rec) {AA:Nat} {d:AN} (hd:okD d=true) (hf:3000<=AA) {z:Int} (hz:0<=z/\z+9+80*f<=100000) (AE:List Ah):∀ (AC:List Ah) (k:Nat) (s:VS),d.AQ=AC++AE->AE.length<k->AC.length+AE.length<=3000000->WS p s->unm s<=f ->
 ∃ t,mF AA rec d z k AC.length p.AF p.AB p.AD p.AG s.sz (ob s.AR) (ob s.Ab) false=some t/\ROut8 p (cS (vis p f) s (AE.map fun r=>(r.AW,z+brs d.AT r.Ad))) t:=by
 induction AE with
 | nil=>
  intro AC k s he hk _ hs hu;obtain _ | k:=k
  ·omega
  exact⟨_,by rw [mF,he,a1D (by simp)],rfl⟩
 | cons e AE ih=>
  intro AC k s he hk hB hs hu;obtain _ | k:=k
  ·omega
  simp only [a0G]at hk hB;have hmem:e∈d.AQ:=by rw [he];simp
  obtain⟨_,_,_,_,h5⟩:=gO hd;obtain⟨g1,g2⟩:=h5 e hmem;have hb:=tG g2;obtain⟨L,h1,h2⟩:=hv.run s e.AW (z+brs d.AT e.Ad) hs hu (by omega) (by omega)
  rw [mF,he,a1E (bJ _ _ _),<- he,a1y,show idx d.AQ (AC.length:Int)=some e from by rw [he];exact bP _ _ _,bsm,bsm,
   show(⟨d.AT,d.AS,d.AQ⟩:AN)=d from rfl,more_eq hf hd hmem,bsm,aQ (by omega),bsm,
   show(⟨⟨p.AF,p.AB,p.AD,p.AG⟩,s.sz,ob s.AR,ob s.Ab,false⟩:Aj)=⟨p,s.sz,ob s.AR,ob s.Ab,false⟩from rfl,h1,bsm,aQ (by omega),bsm,bE AC e]
  simp only [a0N,cS];cases hc:vis p f s e.AW (z+brs d.AT e.Ad)with
  | none=>
   rw [hc]at h2;obtain⟨g1,g2,g3⟩:=h2;obtain _ | k:=k
   ·omega
   rw [g1,d1_bad];exact⟨_,rfl,rfl,g2,g3⟩
  | some s1=>
   rw [hc]at h2;have h2:L=_:=h2;subst h2;obtain⟨w1,u1⟩:=(kM p f).out _ _ _ _ hs hu hc;rw [bsm];exact ih (AC++[e]) k s1 (by rw [he];simp) (by omega) (by simp;omega) w1 (by omega)
theorem rdef {m:Nat} (hv:RVis p f (fG m)) {d:AN} (hd:okD d=true) (hsm:smD d) (hm:3000000<=m) {z:Int} (hz:0<=z/\z+9+80*f<=100000) {s:VS} (hs:WS p s) (hu:unm s<=f):
 ∃ L,lZ (m+1) ⟨p,s.sz,ob s.AR,ob s.Ab,false⟩ d z=some L/\ROut p ((cS (vis p f) s (d.AQ.map fun r=>(r.AW,z+brs d.AT r.Ad))).bind fun s1=>cS (vis p f) s1 (d.AS.map fun y=>(y.AW,z))) L:=by
 obtain⟨c1,c2,c3,_⟩:=hsm
 obtain⟨t,h1,h2⟩:=rd1 hv hd (AA:=m) (by omega) hz d.AQ [] m s rfl (by omega) (by simp;omega) hs hu
 simp only [a0J,a0m]at h1
 rw [lZ,h1,bsm]
 cases hc:cS (vis p f) s (d.AQ.map fun r=>(r.AW,z+brs d.AT r.Ad))with
 | none=>
  rw [hc]at h2;obtain⟨a,b,c,e,sz,ow,us,bd⟩:=t;obtain⟨g1,g2,g3⟩:=h2;dsimp only at g1 g2 g3
  subst g1;obtain⟨m,rfl⟩:∃ k,m=k+1:=⟨m - 1,by omega⟩
  dsimp only
  rw [aDX];exact⟨_,rfl,rfl,g2,g3⟩
 | some s1=>
  rw [hc]at h2;have h2:t=_:=h2;subst h2;obtain⟨w1,u1⟩:=lH (kM p f) _ _ _ hs hu hc;obtain⟨L,h3,h4⟩:=rd2 hv (ch:=d.AT) (ru:=d.AQ) (z:=z) ⟨by omega,by omega⟩ d.AS [] m s1 (by omega) (by simp;omega) w1 (by omega)
  simp only [a0X,a0J,a0m]at h3;exact⟨L,h3,h4⟩
theorem rdef_bad {m:Nat} (hm:0<m) {L:Aj} (hb:L.bad=true) {d:AN} {z:Int}:lZ (m+1) L d z=some L:=by
 obtain⟨k,rfl⟩:∃ k,m=k+1:=⟨m - 1,by omega⟩
 obtain⟨q,sz,ow,us,bd⟩:=L
 dsimp only at hb
 subst hb
 rw [lZ]
 dsimp only
 rw [d1_bad,bsm]
 dsimp only
 rw [aDX]
end
theorem rn1_bad {AA:Nat} {op nn:Int} {ks:List Int} {z:Int} (AE:List AV):∀ (AC:List AV) (k:Nat),AE.length<k->AC.length+AE.length<=3000000 ->
 kJ AA z ⟨op,nn,AC++AE,ks⟩ k AC.length true=some true:=by
 induction AE with
 | nil=>
  intro AC k hk _;obtain _ | k:=k
  ·omega
  rw [kJ,a1D (by simp)]
 | cons e AE ih=>
  intro AC k hk hB;obtain _ | k:=k
  ·omega
  simp only [a0G]at hk hB;rw [kJ,a1E (bJ _ _ _),a1z,bsm,aQ (by omega),bsm,bR AC AE e,bE AC e];exact ih (AC++[e]) k (by omega) (by simp;omega)
theorem rn1 {AA:Nat} (hf:3000000<=AA) {op nn:Int} {ks:List Int} {z:Int} (AE:List AV):∀ (AC:List AV) (k:Nat),AE.length<k->AC.length+AE.length<=3000000->(∀ e∈AE,nE e<=2000000) ->
 kJ AA z ⟨op,nn,AC++AE,ks⟩ k AC.length false=some (!AE.all (okE z)):=by
 induction AE with
 | nil=>
  intro AC k hk _ _;obtain _ | k:=k
  ·omega
  rw [kJ,a1D (by simp)];rfl
 | cons e AE ih=>
  intro AC k hk hB he;obtain _ | k:=k
  ·omega
  simp only [a0G]at hk hB;have hn:=he e (.head _);rw [kJ,a1E (bJ _ _ _),a1y,show(e :: AE).all (okE z)=(okE z e && AE.all (okE z))from rfl];dsimp only
  rw [bP,bsm,aEH (by omega) (by omega),bsm,bsm,aQ (by omega),bsm,bR AC AE e,bE AC e];cases h1:okE z e with
  | false=>exact rn1_bad AE (AC++[e]) k (by omega) (by simp;omega)
  | true=>
   rw [a0l];exact ih (AC++[e]) k (by omega) (by simp;omega) (fun x hx=>he x (.tail _ hx))
open Go.SX Go.SW Go.Dt
def tailR (AA:Nat) (a0:Aj) (a1 a2 z1:Int) (y5:AZ):Option Aj:=
 (kJ AA a2 y5 AA 0 a0.bad).bind fun x1=>
 ((if y5.Op=2 then
   some (decide (y5.Op=2))
 else
  if y5.Op=6 then
   some (decide (y5.Op=6))
  else
   some (decide (y5.Op=8))).bind fun x16=>
 bif x16 then
  bif x1 then
   some (Sum.inl (a2,a0.p.AF,a0.p.AB,a0.p.AD,a0.p.AG,a0.Aa.set a1.toNat a2,a0.Am.set a1.toNat z1,a0.Al,true))
  else
   if y5.N<0 then
    some (Sum.inl (a2,a0.p.AF,a0.p.AB,a0.p.AD,a0.p.AG,a0.Aa.set a1.toNat a2,a0.Am.set a1.toNat z1,a0.Al,true))
   else
    some (Sum.inl (a2,a0.p.AF,a0.p.AB,a0.p.AD,a0.p.AG,a0.Aa.set a1.toNat a2,a0.Am.set a1.toNat z1,a0.Al,decide (a2<=y5.N)))
 else
  if y5.Op=4 then
   if y5.N<0 then
    (some (⟨(⟨a0.p.AF,a0.p.AB,a0.p.AD,a0.p.AG⟩:AJ),a0.Aa.set a1.toNat a2,a0.Am.set a1.toNat z1,a0.Al,true⟩:Aj)).bind fun r=>some (Sum.inr r)
   else
    if (a0.p.AD.length:Int)<=y5.N then
     (some (⟨(⟨a0.p.AF,a0.p.AB,a0.p.AD,a0.p.AG⟩:AJ),a0.Aa.set a1.toNat a2,a0.Am.set a1.toNat z1,a0.Al,true⟩:Aj)).bind fun r=>some (Sum.inr r)
    else
     (idx a0.Al y5.N).bind fun y9=>
     if 0<y9 then
      (some (⟨(⟨a0.p.AF,a0.p.AB,a0.p.AD,a0.p.AG⟩:AJ),a0.Aa.set a1.toNat a2,a0.Am.set a1.toNat z1,a0.Al,true⟩:Aj)).bind fun r=>some (Sum.inr r)
     else
      (idx a0.Al y5.N).bind fun y10=>
      (chk (y10+1)).bind fun z3=>
      (idx a0.Al y5.N).bind fun _=>
      (idx a0.p.AD y5.N).bind fun y12=>
      (vY y12).bind fun y13=>
      (chk (a2+y13)).bind fun z4=>
      (idx a0.p.AD y5.N).bind fun y14=>
      ((lZ AA) (⟨(⟨a0.p.AF,a0.p.AB,a0.p.AD,a0.p.AG⟩:AJ),a0.Aa.set a1.toNat a2,a0.Am.set a1.toNat z1,a0.Al.set y5.N.toNat z3,x1⟩:Aj) y14 z4).bind fun y15=>
      some (Sum.inl (z4,y15.p.AF,y15.p.AB,y15.p.AD,y15.p.AG,y15.Aa,y15.Am,y15.Al,y15.bad))
  else
   bif x1 then
    some (Sum.inl (a2,a0.p.AF,a0.p.AB,a0.p.AD,a0.p.AG,a0.Aa.set a1.toNat a2,a0.Am.set a1.toNat z1,a0.Al,true))
   else
    some (Sum.inl (a2,a0.p.AF,a0.p.AB,a0.p.AD,a0.p.AG,a0.Aa.set a1.toNat a2,a0.Am.set a1.toNat z1,a0.Al,decide (y5.N≠0)))).bind fun o=>match o with
 | Sum.inr r=>some r
 | Sum.inl (x7,x8,x9,x10,x11,x12,x13,x14,x15)=>
 kG (fG AA) y5 x7 AA 0 x8 x9 x10 x11 x12 x13 x14 x15
theorem rown_eq {d:AN} (h:d.AT.length<=2000000) (h2:d.AS.length<=2000000):vY d=some (own d):=by
 rw [vY,aQ (by omega),bsm];rfl
def jU (p:AJ) (s:VS) (x:AZ) (z:Int):Prop:=
 if x.Op=2\/x.Op=6\/x.Op=8 then 0<=x.N/\x.N<z else if x.Op=4 then 0<=x.N/\x.N<(p.AD.length:Int)/\idx s.Ab x.N=some false else x.N=0
section
variable {p:AJ} {f m:Nat}
theorem jD {q:AJ} {sz ow us:List Int} (h1:ow.length=p.AB.length) (h2:us.length=p.AD.length):ROut p none ⟨q,sz,ow,us,true⟩:=⟨rfl,h1,h2⟩
open Classical in
theorem tailR_eq (hp:SmP p) (hall:∀ d∈p.AD,okD d=true) (hm:3000001<=m) (hv:RVis p f (fG m)) (hv':RVis p f (fG (m - 1))) {s:VS} (hs:WS p s) {n z:Int} {x:AZ} (hx:x∈p.AB)
 (hun:∀ Ab,unm ⟨s.sz.set n.toNat z,s.AR.set n.toNat true,Ab⟩<=f) (hz:0<=z/\z+69+80*f<=100000):
 ∃ L,tailR m ⟨p,s.sz,ob s.AR,ob s.Ab,false⟩ n z 1 x=some L/\ROut p (if x.AX.all (okE z)=true/\jU p s x z then rest p f s n z x else none) L:=by
 obtain⟨op,nn,ar,ks⟩:=x
 obtain⟨g1,g2,g3⟩:=hp.args _ hx
 dsimp only at g1 g2 g3
 obtain⟨m',rfl⟩:∃ k,m=k+1:=⟨m - 1,by omega⟩
 simp only [Nat.add_sub_cancel]at hv'
 have e1:=rn1 (AA:=m'+1) (by omega) (op:=op) (nn:=nn) (ks:=ks) (z:=z) ar [] (m'+1) (by omega) (by simp;omega) g3
 simp only [a0X,a0J,a0m]at e1
 have hsets:(ob s.AR).set n.toNat 1=ob (s.AR.set n.toNat true):=ob_set.symm
 have hl1:((ob s.AR).set n.toNat 1).length=p.AB.length:=by simp [lE,hs.AR]
 have hl2:(ob s.Ab).length=p.AD.length:=by rw [lE,hs.Ab]
 rw [tailR]
 dsimp only
 rw [e1,bsm]
 have good:∀ (zz:Int) (s1:VS),0<=zz->zz+80*f<=100000->WS p s1->unm s1<=f->∃ L,kG (fG (m'+1)) ⟨op,nn,ar,ks⟩ zz (m'+1) 0 p.AF p.AB p.AD p.AG s1.sz (ob s1.AR) (ob s1.Ab) false=some L/\ROut p (cS (vis p f) s1 (ks.map fun k=>(k,zz))) L:=fun zz s1 a b c d=>by
  have:=rk2 hv (op:=op) (nn:=nn) (ar:=ar) (z:=zz) ⟨a,b⟩ ks [] (m'+1) s1 (by omega) (by simp;omega) c d
  grind
 have w1:=(rU hs (p:=p) (i:=n.toNat) (j:=0) (z:=z)).1
 have hne4:op≠4->rest p f s n z ⟨op,nn,ar,ks⟩=cS (vis p f) ⟨s.sz.set n.toNat z,s.AR.set n.toNat true,s.Ab⟩ (ks.map fun k=>(k,z)):=by grind [rest]
 by_cases o2:op=2\/op=6\/op=8
 ·have hb:((if op=2 then some (decide (op=2)) else if op=6 then some (decide (op=6)) else some (decide (op=8))):Option Bool)=some true:=by
   grind
  have hk:jU p s ⟨op,nn,ar,ks⟩ z ↔ (0<=nn/\nn<z):=by grind [jU]
  rw [hb,bsm,a1z];cases hall2:ar.all (okE z)with
  | false=>
   rw [a0j,a1z,bsm];dsimp only
   rw [pA,a1D (fun q=>by cases q.1)]
   grind [jD]
  | true=>
   rw [a0k,a1y];by_cases n0:nn<0
   ·rw [a1E n0,bsm];dsimp only
    rw [pA,a1D (fun q=>by have:=hk.1 q.2;omega)]
    grind [jD]
   ·rw [a1D n0,bsm];dsimp only
    by_cases n1:z<=nn
    ·rw [a1B n1,pA,a1D (fun q=>by have:=hk.1 q.2;omega)]
     grind [jD]
    grind
 ·have hb:((if op=2 then some (decide (op=2)) else if op=6 then some (decide (op=6)) else some (decide (op=8))):Option Bool)=some false:=by
   grind
  rw [hb,bsm,a1y];by_cases o4:op=4
  ·subst o4;have hk:jU p s ⟨4,nn,ar,ks⟩ z ↔ (0<=nn/\nn<(p.AD.length:Int)/\idx s.Ab nn=some false):=by grind [jU]
   rw [a1E rfl];by_cases n0:nn<0
   ·grind [jD]
   ·rw [a1D n0];by_cases n1:(p.AD.length:Int)<=nn
    ·grind [jD]
    ·rw [a1D n1];obtain⟨b,hbb⟩:=gA (xs:=s.Ab) (show 0<=nn by omega) (by rw [hs.Ab];omega)
     obtain⟨d,hd⟩:=gA (xs:=p.AD) (show 0<=nn by omega) (by omega)
     have hok:=hall d (eG hd);have hsm:=hp.Ab d (eG hd);obtain⟨k1,k2,k3,_,_⟩:=gO hok;have hown:0<=own d/\own d<=60:=by unfold own;omega
     rw [aDt hbb,bsm];cases b with
     | true=>
      rw [a1E rfl,a1E (by omega),bsm,bsm]
      grind [jD]
     | false=>
      have hkk:jU p s ⟨4,nn,ar,ks⟩ z:=by grind
      rw [a1D a0i,a1D (by omega),bsm,aQ (by omega),bsm,bsm,hd,bsm,rown_eq (by omega) (by omega),bsm,aQ (by omega),bsm,bsm];have hsetd:(ob s.Ab).set nn.toNat (0+1)=ob (s.Ab.set nn.toNat true):=ob_set.symm;have w2:=(rU hs (p:=p) (i:=n.toNat) (j:=nn.toNat) (z:=z)).2;rw [hsets,hsetd];cases hall2:ar.all (okE z)with
      | false=>
       rw [a0j,rdef_bad (by omega) rfl,bsm,bsm];dsimp only
       rw [pA,a1D (fun q=>by cases q.1)]
       grind [jD]
      | true=>
       rw [a0k,a1E ⟨rfl,hkk⟩];obtain⟨L,h1,h2⟩:=rdef hv' hok hsm (by omega) (z:=z+own d) ⟨by omega,by omega⟩ w2 (by grind)
       rw [show(⟨⟨p.AF,p.AB,p.AD,p.AG⟩,s.sz.set n.toNat z,ob (s.AR.set n.toNat true),ob (s.Ab.set nn.toNat true),false⟩:Aj)=⟨p,s.sz.set n.toNat z,ob (s.AR.set n.toNat true),ob (s.Ab.set nn.toNat true),false⟩from rfl,h1,bsm,bsm];dsimp only
       have hres:rest p f s n z ⟨4,nn,ar,ks⟩=((cS (vis p f) ⟨s.sz.set n.toNat z,s.AR.set n.toNat true,s.Ab.set nn.toNat true⟩ (d.AQ.map fun r=>(r.AW,z+own d+brs d.AT r.Ad))).bind fun s1=>cS (vis p f) s1 (d.AS.map fun y=>(y.AW,z+own d))).bind fun s2=>cS (vis p f) s2 (ks.map fun k=>(k,z+own d)):=by
        grind [rest]
       rw [hres];cases hc:(cS (vis p f) ⟨s.sz.set n.toNat z,s.AR.set n.toNat true,s.Ab.set nn.toNat true⟩ (d.AQ.map fun r=>(r.AW,z+own d+brs d.AT r.Ad))).bind fun s1=>cS (vis p f) s1 (d.AS.map fun y=>(y.AW,z+own d))with
       | none=>
        rw [hc]at h2;obtain⟨q1,q2,q3⟩:=h2;rw [q1,pA];exact⟨_,rfl,rfl,q2,q3⟩
       | some s2=>
        rw [hc]at h2;have h2:L=_:=h2;subst h2;obtain⟨s1,a1,a2⟩:=bind_some hc;obtain⟨b1,b2⟩:=lH (kM p f) _ _ _ w2 (hun _) a1;have:=hun (s.Ab.set nn.toNat true);obtain⟨c1,c2⟩:=lH (kM p f) _ _ _ b1 (by omega) a2
        rw [bsm];exact good (z+own d) s2 (by omega) (by omega) c1 (by omega)
  ·have hk:jU p s ⟨op,nn,ar,ks⟩ z ↔ nn=0:=by grind [jU]
   rw [a1D o4];cases hall2:ar.all (okE z)with
   | false=>
    rw [a0j,a1z,bsm];dsimp only
    rw [pA,a1D (fun q=>by cases q.1)]
    grind [jD]
   | true=>
    rw [a0k,a1y,bsm];dsimp only
    by_cases n1:nn≠0
    ·rw [a1B n1,pA,a1D (fun q=>n1 (hk.1 q.2))]
     grind [jD]
    grind
theorem aLa {op:Int} {k c:Nat} (h:shp op=some (k,c)):vT op=some (if c=1 then -1 else if c=2 then 1 else 0,(k:Int),true):=by
 unfold shp at h
 split at h
 ·rename_i h1;cases h;rcases h1 with rfl | rfl <;> rfl
 split at h
 ·rename_i h1;cases h;subst h1;rfl
 split at h
 ·rename_i h1;cases h;subst h1;rfl
 split at h
 ·rename_i h1;cases h;subst h1;rfl
 split at h
 ·rename_i h1;cases h;rcases h1 with rfl | rfl <;> rfl
 split at h
 ·rename_i h1;cases h;subst h1;rfl
 ·cases h
theorem aKe {op:Int} (h:shp op=none):vT op=some (0,0,false):=by
 unfold shp at h
 rw [vT]
 grind
def qC (c:Nat) (l:Nat):Prop:=if c=1 then l<=3 else if c=2 then l=1 else l=0
theorem aCj {s:VS} {x:AZ} {z:Int} {k c:Nat} (h:shp x.Op=some (k,c)):okM p s x z c ↔ jU p s x z/\qC c x.AX.length:=by
 have h0:=h
 unfold shp at h
 unfold jU qC
 grind [okM]
open Classical in
theorem rnode_go (hp:SmP p) (hall:∀ d∈p.AD,okD d=true) (hm:3000001<=m) (hv:RVis p f (fG m)) (hv':RVis p f (fG (m - 1))) {s:VS} (hs:WS p s) {n z:Int} (hu:unm s<=f+1) (hz:0<=z/\z+69+80*f<=100000) (h:0<=n/\n<(p.AB.length:Int)/\idx s.AR n=some false):
 ∃ L,fG (m+1) ⟨p,s.sz,ob s.AR,ob s.Ab,false⟩ n z=some L/\ROut p (vis p (f+1) s n z) L:=by
 obtain⟨x,hx⟩:=gA h.1 h.2.1
 obtain⟨v1,v2⟩:=vis_go (f:=f) (z:=z) h hx
 have hun:∀ Ab,unm ⟨s.sz.set n.toNat z,s.AR.set n.toNat true,Ab⟩<=f:=fun Ab=>by
  have:=aCL (p:=p) (z:=z) (Ab:=Ab) h.1 h.2.2;omega
 obtain⟨b,hb⟩:=gA (xs:=s.sz) h.1 (by rw [hs.sz];exact h.2.1)
 have hl1:((ob s.AR).set n.toNat 1).length=p.AB.length:=by simp [lE,hs.AR]
 have hl2:(ob s.Ab).length=p.AD.length:=by rw [lE,hs.Ab]
 have hgo:=tailR_eq hp hall hm hv hv' hs (n:=n) (z:=z) (eG hx) hun hz
 rw [fG]
 dsimp only
 rw [a1D (by omega),a1D (by omega),aDt h.2.2,bsm,a1D a0i,a1D (by omega),bsm,aQ (by omega),bsm,bsm,hb,bsm,hx,bsm]
 cases hsh:shp x.Op with
 | none=>
  rw [aKe hsh,bsm];dsimp only
  rw [a0j,a1z,bsm,bsm,v2 (by rintro⟨⟨k,c,g,_⟩,_⟩;rw [hsh]at g;cases g)];exact⟨_,rfl,jD hl1 hl2⟩
 | some kc=>
  obtain⟨k,c⟩:=kc;rw [aLa hsh,bsm];dsimp only
  rw [a0k,a1y];by_cases hk:(x.AM.length:Int)≠(k:Int)
  ·rw [a1E hk,bsm,bsm,v2 (by rintro⟨⟨k',c',g,g2,_⟩,_⟩;rw [hsh]at g;cases g;omega)];exact⟨_,rfl,jD hl1 hl2⟩
  ·rw [a1D hk];have hfin:(if x.AX.all (okE z)=true/\jU p s x z then rest p f s n z x else none)=vis p (f+1) s n z\/¬ qC c x.AX.length:=by
    by_cases ha:qC c x.AX.length
    ·left
     by_cases hq:x.AX.all (okE z)=true/\jU p s x z
     ·rw [a1E hq,v1 ⟨⟨k,c,hsh,by omega,(aCj hsh).2 ⟨hq.2,ha⟩⟩,hq.1⟩]
     ·rw [a1D hq,v2];rintro⟨⟨k',c',g,_,g3⟩,g4⟩
      rw [hsh]at g;cases g
      exact hq ⟨g4,((aCj hsh).1 g3).1⟩
    ·exact .inr ha
   have hbad:¬ qC c x.AX.length->vis p (f+1) s n z=none:=fun ha=>v2 (by
    rintro⟨⟨k',c',g,_,g3⟩,_⟩
    rw [hsh]at g;cases g
    exact ha ((aCj hsh).1 g3).2)
   obtain⟨L,e1,e2⟩:=hgo;by_cases ha:qC c x.AX.length
   ·rw [hfin.resolve_right (fun q=>q ha)]at e2;refine⟨L,?_,e2⟩;rw [<- e1];unfold qC at ha;by_cases c1:c=1
    ·rw [a1E c1]at ha ⊢;rw [a1E (by omega),a1D (by omega),a1D (by omega),bsm];rfl
    ·rw [a1D c1]at ha ⊢;by_cases c2:c=2
     ·rw [a1E c2]at ha ⊢;rw [a1D (by omega),a1E (by omega),a1D (by omega),bsm];rfl
     ·rw [a1D c2]at ha ⊢;rw [a1D (by omega),a1E (by omega),a1D (by omega),bsm];rfl
   ·rw [hbad ha];refine⟨⟨p,s.sz.set n.toNat z,(ob s.AR).set n.toNat 1,ob s.Ab,true⟩,?_,jD hl1 hl2⟩;unfold qC at ha;by_cases c1:c=1
    ·rw [a1E c1]at ha ⊢;rw [a1E (by omega),a1E (by omega),bsm,bsm];rfl
    ·rw [a1D c1]at ha ⊢;by_cases c2:c=2
     ·rw [a1E c2]at ha ⊢;rw [a1D (by omega),a1E (by omega),a1E (by omega),bsm,bsm];rfl
     ·rw [a1D c2]at ha ⊢;rw [a1D (by omega),a1E (by omega),a1E (by omega),bsm,bsm];rfl
theorem aHm {s:VS} (hs:WS p s) {n z:Int} (h:¬ (0<=n/\n<(p.AB.length:Int)/\idx s.AR n=some false)):∃ L,fG (m+1) ⟨p,s.sz,ob s.AR,ob s.Ab,false⟩ n z=some L/\ROut p none L:=by
 have hl1:(ob s.AR).length=p.AB.length:=by rw [lE,hs.AR]
 have hl2:(ob s.Ab).length=p.AD.length:=by rw [lE,hs.Ab]
 refine⟨⟨p,s.sz,ob s.AR,ob s.Ab,true⟩,?_,jD hl1 hl2⟩
 rw [fG]
 dsimp only
 by_cases h0:n<0
 ·rw [a1E h0]
 ·rw [a1D h0];by_cases h1:(p.AB.length:Int)<=n
  ·rw [a1E h1]
  ·rw [a1D h1];obtain⟨b,hb⟩:=gA (xs:=s.AR) (show 0<=n by omega) (by rw [hs.AR];omega)
   cases b with
   | false=>grind
   | true=>rw [aDt hb,bsm,a1E rfl,a1E (by omega)]
end
theorem rvis {p:AJ} (hp:SmP p) (hall:∀ d∈p.AD,okD d=true) (f:Nat):∀ g,3000003+2*f<=g->RVis p f (fG g):=by
 induction f with
 | zero=>
  intro g hg;obtain⟨g,rfl⟩:∃ k,g=k+1:=⟨g - 1,by omega⟩
  refine⟨fun s n z hs hu h0 h1=>?_⟩
  have h:¬ (0<=n/\n<(p.AB.length:Int)/\idx s.AR n=some false):=by grind [aG1]
  rw [aAT h];exact aHm hs h
 | succ f ih=>
  intro g hg;obtain⟨g,rfl⟩:∃ k,g=k+1:=⟨g - 1,by omega⟩
  refine⟨fun s n z hs hu h0 h1=>?_⟩
  by_cases h:0<=n/\n<(p.AB.length:Int)/\idx s.AR n=some false
  ·exact rnode_go hp hall (m:=g) (by omega) (ih g (by omega)) (ih (g - 1) (by omega)) hs hu ⟨h0,by omega⟩ h
  ·rw [aAT h];exact aHm hs h
open Go.SX Go.SW Go.Dt
abbrev F:Nat:=1000000000
theorem aGn:∀ x y:List UInt8,Op.bytesLess x y=(!(Op.bytesLess y x || decide (y=x)))
 | [],[]=>rfl
 | [],b :: y=>by simp [Op.bytesLess]
 | a :: x,[]=>by simp [Op.bytesLess]
 | a :: x,b :: y=>by
  have ih:=aGn x y;simp only [Op.bytesLess,ih];by_cases h1:a<b
  ·have h2:¬ b<a:=fun h=>by have:=UInt8.lt_trans h1 h;exact absurd this (by simp)
   have h3:b≠a:=fun h=>by subst h;exact absurd h1 (by simp)
   simp [h1,h2,h3]
  ·by_cases h2:b<a
   ·have h3:a≠b:=fun h=>by subst h;exact absurd h2 (by simp)
    simp [h1,h2,h3]
   ·have h3:a=b:=by
     have a1:=UInt8.not_lt.1 h1;have a2:=UInt8.not_lt.1 h2
     exact UInt8.le_antisymm a2 a1
    subst h3;simp
theorem slt_sle (a b:ByteArray):slt a b=!sle b a:=by
 have he:decide (b=a)=decide (b.toList=a.toList):=by
  rw [decide_eq_decide];exact⟨fun h=>by rw [h],fun h=>(by have:=(aBk (i:=b) (j:=a));rw [beq_iff_eq.2 h]at this;exact of_decide_eq_true this.symm)⟩
 unfold sle slt
 rw [he];exact aGn _ _
theorem aFH (s:ByteArray):∀ (k:Nat) (i:Int),uQ s k i=jF s k i
 | 0,_=>rfl
 | k+1,i=>by
  rw [uQ,jF];simp only [aFH s k]
theorem aGc {s:ByteArray} (hs:s.size<=2000000):∀ (k i:Nat),s.size<k+i->i<=s.size->jF s k (i:Int)=some (.inr false)\/jF s k (i:Int)=some (.inl ())
 | 0,i,h,h2=>by omega
 | k+1,i,h,h2=>by
  rw [jF];by_cases hi:i<s.size
  ·have hx:sidx s (i:Int)=some ((s[i]'hi).toNat:Int):=by
    unfold sidx;rw [a1E (by omega)];simp [hi]
   rw [a1E (by omega),hx,bsm];by_cases c1:((s[i]'hi).toNat:Int)<97
   ·rw [a1E c1];exact .inl rfl
   ·rw [a1D c1,bsm];by_cases c2:122<((s[i]'hi).toNat:Int)
    ·rw [a1E c2];exact .inl rfl
    ·rw [a1D c2,aQ (by omega),bsm];exact aGc hs k (i+1) (by omega) (by omega)
  ·rw [a1D (by omega)];exact .inr rfl
theorem aFE {s:ByteArray} (hs:s.size<=2000000):∀ (k k' i:Nat),s.size<k+i->s.size<k'+i->i<=s.size->jF s k (i:Int)=jF s k' (i:Int)
 | 0,_,i,h,_,h2=>by omega
 | _,0,i,_,h,h2=>by omega
 | k+1,k'+1,i,h,h',h2=>by
  rw [jF,jF];by_cases hi:i<s.size
  ·have e:=aFE hs k k' (i+1) (by omega) (by omega) (by omega)
   have e2:((i+1:Nat):Int)=(i:Int)+1:=by omega
   rw [e2]at e;simp only [aQ (i:=(i:Int)+1) (by omega),bsm,e]
  ·rw [a1D (by omega),a1D (by omega)]
open Classical in
theorem has_loop {a:ByteArray} (AE:List ByteArray):∀ (AC:List ByteArray) (k:Nat),AE.length<k->AC.length+AE.length<=3000000->tB (AC++AE) a k AC.length=some (if a∈AE then .inr true else .inl ()):=by
 induction AE with
 | nil=>
  intro AC k hk _;obtain _ | k:=k
  ·omega
  rw [tB,a1D (by simp),a1D (by simp)]
 | cons e AE ih=>
  intro AC k hk hB;obtain _ | k:=k
  ·omega
  simp only [a0G]at hk hB;rw [tB,a1E (bJ _ _ _),bP,bsm];by_cases he:e=a
  ·rw [a1E he,a1E (by simp [he])];rfl
  ·have hm:(a∈e :: AE) ↔ a∈AE:=by simp [Ne.symm he]
   rw [a1D he,aQ (by omega),bsm,bR AC AE e,bE AC e,ih (AC++[e]) k (by omega) (by simp;omega)];by_cases hs:a∈AE
   ·rw [a1E hs,a1E (hm.2 hs)]
   ·rw [a1D hs,a1D (fun q=>hs (hm.1 q))]
open Classical in
theorem vN {f:Nat} {l:List ByteArray} {a:ByteArray} (hf:3900000<=f) (h:l.length<=3000000):yU f l a=some (decide (a∈l)):=by
 have:=has_loop (a:=a) l [] f (by omega) (by simp;omega)
 simp only [a0X,a0J,a0m]at this
 rw [yU,this,bsm]
 by_cases hs:a∈l
 ·rw [a1E hs];simp [hs]
 ·rw [a1D hs];simp [hs]
theorem upd_get {g:aM ByteArray Bool} {k s:ByteArray}:(aM.upd g k true).get s=if s=k then some true else g.get s:=rfl
theorem aES {f:Nat} (hf:3900000<=f) {s:ByteArray} (hs:s.size<=2000000):∃ b,rE F s=some b/\uF f s=some b:=by
 have hl:=aGc hs F 0 (by show s.size<1000000000+0;omega) (by omega)
 have hle:=aFE hs f F 0 (by omega) (by show s.size<1000000000+0;omega) (by omega)
 simp only [a0m]at hl hle
 rw [rE,uF,aFH,hle]
 by_cases c1:(s.size:Int)<1
 ·rw [a1E c1];refine⟨false,?_,rfl⟩;rcases hl with h | h <;> rw [h,bsm]
  dsimp only
  rw [a1D (by omega)];rfl
 ·rw [a1D c1];by_cases c2:8<(s.size:Int)
  ·rw [a1E c2];refine⟨false,?_,rfl⟩;rcases hl with h | h <;> rw [h,bsm]
   dsimp only
   rw [a1E (by omega),a1D (by omega)];rfl
  ·rw [a1D c2];rcases hl with h | h
   ·rw [h];exact⟨false,rfl,rfl⟩
   ·rw [h,bsm,bsm];dsimp only
    rw [a1E (by omega),a1E (by omega),vN hf (by simp),bsm];refine⟨_,?_,rfl⟩;rw [aA9,bsm,bsm];congr 2
    simp only [upd_get,aM.none,a0R,List.not_mem_nil,or_false]
    repeat' split
    all_goals simp_all
def nm (s:ByteArray):Bool:=(rE F s).getD false
theorem nm_p {s:ByteArray} (hs:s.size<=2000000):rE F s=some (nm s):=by
 obtain⟨b,h,_⟩:=aES (f:=F) (by decide) hs;unfold nm;rw [h];rfl
theorem nm_r {f:Nat} {s:ByteArray} (hs:s.size<=2000000) (hf:3900000<=f:=by decide):uF f s=some (nm s):=by
 obtain⟨b,h,h2⟩:=aES hf hs;unfold nm;rw [h,h2];rfl
def okF:Option ByteArray->List ByteArray->Bool
 | _,[]=>true
 | q,s :: l=>nm s && (match q with | none=>true | some q=>slt q s) && okF (some s) l
theorem aGm {α:Type} {AC AE:List α} {y:α} (h:0<AC.length):∃ q,AC.getLast? =some q/\idx (AC++y :: AE) ((AC.length:Int) - 1)=some q:=by
 have hne:AC≠[]:=fun e=>by rw [e]at h;simp at h
 have hd:=List.dropLast_concat_getLast hne
 generalize AC.dropLast=d,AC.getLast hne=q at hd
 subst hd
 refine⟨q,by simp,?_⟩
 rw [show(((d++[q]).length:Int) - 1)=(d.length:Int)from by simp]
 exact nZ (by simp)
theorem fl1 {nodes:List AZ} {Ae:List AN} {mn:Int} (AE:List ByteArray):∀ (AC:List ByteArray) (k:Nat),AE.length<k->AC.length+AE.length<=3000000->(∀ x∈AE,x.size<=2000000) ->
 oU F ⟨AC++AE,nodes,Ae,mn⟩ k AC.length=some (if okF AC.getLast? AE=true then .inl () else .inr (.inr flaw)):=by
 induction AE with
 | nil=>
  intro AC k hk _ _;obtain _ | k:=k
  ·omega
  rw [oU,a1D (by simp),a1E (by rfl)]
 | cons e AE ih=>
  intro AC k hk hB hx;obtain _ | k:=k
  ·omega
  simp only [a0G]at hk hB;have hgl:(AC++[e]).getLast? =some e:=by simp
  rw [oU,a1E (bJ _ _ _)];dsimp only
  rw [bP,bsm,nm_p (hx e (.head _)),bsm];have hst:okF AC.getLast? (e :: AE)=(nm e && (match AC.getLast? with | none=>true | some q=>slt q e) && okF (some e) AE):=by
   cases AC.getLast? <;> rfl
  cases hn:nm e with
  | false=>rw [hst,hn,Bool.false_and,Bool.false_and];rfl
  | true=>
   rw [a1z];rw [hn,a0l]at hst;have hnext:=ih (AC++[e]) k (by omega) (by simp;omega) (fun x h=>hx x (.tail _ h))
   rw [hgl]at hnext;by_cases h0:(AC.length:Int)=0
   ·have:AC=[]:=a0s (by omega)
    subst this;have hst:okF ([]:List ByteArray).getLast? (e :: AE)=okF (some e) AE:=by rw [hst];rfl
    rw [a1E h0,eP,bsm,hst];dsimp only
    rw [bsm];dsimp only
    rw [aQ (by simp),bsm,bR [] AE e,bE [] e,hnext]
   ·obtain⟨q,h1,h2⟩:=aGm (AC:=AC) (AE:=AE) (y:=e) (by omega)
    have hst:okF AC.getLast? (e :: AE)=(slt q e && okF (some e) AE):=by rw [hst,h1]
    rw [a1D h0,aQ (by omega),bsm,h2,bsm,hst];cases hl:slt q e with
    | false=>rfl
    | true=>
     rw [eP,bsm,a0l];dsimp only
     rw [bsm];dsimp only
     rw [aQ (by omega),bsm,bR AC AE e,bE AC e,hnext]
theorem fr_bad {f:Nat} {p:AJ} (AE:List ByteArray):∀ (AC:List ByteArray) (k:Nat),p.AF=AC++AE->AE.length<k->AC.length+AE.length<=3000000->kB f p k AC.length true=some true:=by
 induction AE with
 | nil=>
  intro AC k he hk _;obtain _ | k:=k
  ·omega
  rw [kB,he,a1D (by simp)]
 | cons e AE ih=>
  intro AC k he hk hB;obtain _ | k:=k
  ·omega
  simp only [a0G]at hk hB;rw [kB,he,a1E (bJ _ _ _),a1z,bsm,aQ (by omega),bsm,bE AC e];exact ih (AC++[e]) k (by rw [he];simp) (by omega) (by simp;omega)
theorem fr1 {f:Nat} (hf:3900000<=f) {p:AJ} (AE:List ByteArray):∀ (AC:List ByteArray) (k:Nat),p.AF=AC++AE->AE.length<k->AC.length+AE.length<=3000000->(∀ x∈AE,x.size<=2000000) ->
 kB f p k AC.length false=some (!okF AC.getLast? AE):=by
 induction AE with
 | nil=>
  intro AC k he hk _ _;obtain _ | k:=k
  ·omega
  rw [kB,he,a1D (by simp)];rfl
 | cons e AE ih=>
  intro AC k he hk hB hx;obtain _ | k:=k
  ·omega
  simp only [a0G]at hk hB;have hgl:(AC++[e]).getLast? =some e:=by simp
  have hst:okF AC.getLast? (e :: AE)=(nm e && (match AC.getLast? with | none=>true | some q=>slt q e) && okF (some e) AE):=by
   cases AC.getLast? <;> rfl
  have hnext:=ih (AC++[e]) k (by rw [he];simp) (by omega) (by simp;omega) (fun x h=>hx x (.tail _ h))
  have hbadn:=fr_bad (f:=f) (p:=p) AE (AC++[e]) k (by rw [he];simp) (by omega) (by simp;omega)
  rw [hgl]at hnext;rw [kB,he,a1E (bJ _ _ _),a1y,bP,bsm,nm_r (hx e (.head _)) hf,bsm,hst];cases hn:nm e with
  | false=>
   rw [a0j,a1z,bsm,aQ (by omega),bsm,bE AC e,hbadn];rfl
  | true=>
   rw [a0k,a1y,a0l];by_cases h0:0<(AC.length:Int)
   ·obtain⟨q,h1,h2⟩:=aGm (AC:=AC) (AE:=AE) (y:=e) (by omega)
    have hst2:(match AC.getLast? with | none=>true | some q=>slt q e)=!sle e q:=by rw [h1];exact slt_sle q e
    rw [hst2,a1E h0,bsm,aQ (by omega),bsm,h2,bsm,bsm,aQ (by omega),bsm,bE AC e];cases hl:sle e q with
    | true=>rw [hbadn];rfl
    | false=>rw [hnext];rfl
   ·have:AC=[]:=a0s (by omega)
    subst this;rw [a1D h0,bsm,aQ (by simp),bsm,bE [] e,hnext];simp
open Go.SX Go.SW Go.Dt
def start (p:AJ):VS:=⟨List.replicate p.AB.length 0,List.replicate p.AB.length false,List.replicate p.AD.length false⟩
open Classical in
noncomputable def dT (p:AJ):Option VS:=
 if p.AF.length<=12/\p.AB.length<=60/\p.AD.length<=12/\okF none p.AF=true then
  (vis p p.AB.length (start p) p.AG p.AF.length).bind fun s=>if s.AR.all id=true/\s.Ab.all id=true then some s else none
 else none
theorem vQ {p:AJ}:WS p (start p):=⟨by simp [start],by simp [start],by simp [start]⟩
theorem vL {p:AJ}:unm (start p)=p.AB.length:=by simp [unm,start,List.countP_replicate]
def GD (p:AJ) (s:VS):Prop:=∀ i:Nat,s.Ab[i]? =some true->∃ d,p.AD[i]? =some d/\okD d=true
theorem xS {p:AJ} {g:VS->Int->Int->Option VS} (h:∀ s n z s',g s n z=some s'->GD p s->GD p s'):∀ (l:List (Int × Int)) (s s':VS),cS g s l=some s'->GD p s->GD p s'
 | [],s,s',e,h0=>by cases e;exact h0
 | x :: l,s,s',e,h0=>by
  obtain⟨s1,e1,e2⟩:=bind_some e;exact xS h l s1 s' e2 (h _ _ _ _ e1 h0)
theorem vis_gd {p:AJ} (f:Nat):∀ (s:VS) (n z:Int) (s':VS),vis p f s n z=some s'->GD p s->GD p s':=by
 induction f with
 | zero=>grind [vis]
 | succ f ih=>
  intro s n z s' h h0;simp only [vis]at h;split at h
  ·obtain⟨x,_,h⟩:=bind_some h;split at h
   ·split at h
    ·obtain⟨d,hd,h⟩:=bind_some h;split at h
     ·rename_i hok;obtain⟨s1,e1,h⟩:=bind_some h;obtain⟨s2,e2,e3⟩:=bind_some h;refine xS ih _ _ _ e3 (xS ih _ _ _ e2 (xS ih _ _ _ e1 ?_));intro i hi;by_cases hn:x.N.toNat=i
      ·grind [kL]
      ·simp only [a0C hn]at hi;exact h0 i hi
     ·cases h
    ·exact xS ih _ _ _ h h0
   ·cases h
  ·cases h
theorem aAO {p:AJ} {s:VS} (h:dT p=some s):∀ d∈p.AD,okD d=true:=by
 unfold dT at h
 split at h
 ·obtain⟨s1,h1,h2⟩:=bind_some h;split at h2
  ·rename_i hc;cases h2;have hg:=vis_gd _ _ _ _ _ h1 (fun i hi=>by grind [start])
   have hw:=((kM p p.AB.length).out _ _ _ _ vQ (by grind [vL]) h1).1
   intro d hd;obtain⟨i,hi⟩:=a0S.1 hd;have hlt:=(a0z.1 hi).1;have hlt2:i<s.Ab.length:=by rw [hw.Ab];exact hlt
   have ht:s.Ab[i]=true:=by grind [List.getElem_mem]
   obtain⟨d',h3,h4⟩:=hg i (by grind)
   grind
  ·cases h2
 ·cases h
theorem aJJ (AE:List Bool):∀ (AC:List Bool) (k:Nat),AE.length<k->AC.length+AE.length<=3000000->∃ r,sS (AC++AE) false k AC.length=some r/\((AE.all id=false/\∃ i:Int,r= .inr i/\0<=i)\/(AE.all id=true/\r= .inl ())):=by
 induction AE with
 | nil=>
  intro AC k hk _;obtain _ | k:=k
  ·omega
  grind [sS]
 | cons e AE ih=>
  intro AC k hk hB;obtain _ | k:=k
  ·omega
  simp only [a0G]at hk hB;rw [sS,a1E (bJ _ _ _),bP,bsm];cases e with
  | false=>grind
  | true=>
   rw [show(false==true)=false from rfl,a1y,aQ (by omega),bsm,bR AC AE true,bE AC true];obtain⟨r,h1,h2⟩:=ih (AC++[true]) k (by omega) (by simp;omega)
   grind
theorem aEG {l:List Bool} (h:l.length<=3000000):vZ F l false=some (!l.all id):=by
 obtain⟨r,h1,h2⟩:=aJJ l [] F (by grind) (by simp;omega)
 grind [vZ,aBQ]
theorem aDV {p:AJ} (hp:SmP p):tN F p=some (jI p (dT p)):=by
 obtain⟨fr,nodes,Ae,mn⟩:=p
 have hf:=hp.free;have hn:=hp.nodes;have hd:=hp.Ae
 dsimp only at hf hn hd
 rw [tN]
 dsimp only
 unfold dT
 dsimp only
 by_cases l1:fr.length<=12
 ·rw [a1E (by omega)];by_cases l2:nodes.length<=60
  ·rw [a1E (by omega)];by_cases l3:Ae.length<=12
   ·rw [a1B (by omega),eP,bsm,bsm];dsimp only
    have e1:oU F ⟨fr,nodes,Ae,mn⟩ F 0=some (if okF none fr=true then .inl () else .inr (.inr flaw)):=fl1 (nodes:=nodes) (Ae:=Ae) (mn:=mn) fr [] F (by grind) (by simp;omega) hp.names
    rw [e1,bsm];by_cases hok:okF none fr=true
    ·rw [a1E hok,a1E ⟨l1,l2,l3,hok⟩];dsimp only
     have hmk:∀ {α:Type} (a:α) (k:Nat),k<=60->mk a (k:Int)=some (List.replicate k a):=by grind [mk]
     rw [hmk 0 _ l2,bsm,hmk false _ l2,bsm,hmk false _ (by omega),bsm];have hv:=pvis hp (b:=1000000000 - nodes.length - 1) (by omega) nodes.length
     rw [show 1000000000 - nodes.length - 1+nodes.length+1=F from by grind]at hv
     have hrun:=hv.run (start ⟨fr,nodes,Ae,mn⟩) mn fr.length vQ (by grind [vL]) (by omega) (by omega)
     rw [show(⟨⟨fr,nodes,Ae,mn⟩,List.replicate nodes.length 0,List.replicate nodes.length false,List.replicate Ae.length false⟩:Af)=⟨⟨fr,nodes,Ae,mn⟩,(start ⟨fr,nodes,Ae,mn⟩).sz,(start ⟨fr,nodes,Ae,mn⟩).AR,(start ⟨fr,nodes,Ae,mn⟩).Ab⟩from rfl,hrun,bsm];cases hc:vis ⟨fr,nodes,Ae,mn⟩ nodes.length (start ⟨fr,nodes,Ae,mn⟩) mn fr.length with
     | none=>rfl
     | some s=>
      obtain⟨w,_⟩:=(kM _ _).out _ _ _ _ vQ (by grind [vL]) hc
      have wm:s.AR.length=nodes.length:=w.AR;have wd:s.Ab.length=Ae.length:=w.Ab;simp only [jI];rw [bsm,aEG (by omega),bsm];cases hm:s.AR.all id with
      | false=>rw [a1D (fun q=>by cases q.1)];rfl
      | true=>
       rw [a0k,a0j,a1z,aEG (by omega),bsm];cases hm2:s.Ab.all id with
       | false=>rw [a1D (fun q=>by cases q.2)];rfl
       | true=>rw [a1E ⟨rfl,rfl⟩];rfl
    ·rw [a1D hok,a1D (fun q=>hok q.2.2.2)];rfl
   ·rw [a1A (by omega),dC,a1D (fun q=>l3 q.2.2.1)];rfl
  ·rw [a1D (by omega),dC,a1D (fun q=>l2 q.2.1)];rfl
 ·rw [a1D (by omega),dC,a1D (fun q=>l1 q.1)];rfl
theorem check_eq {p:AJ} (hp:SmP p):uX F p=some (if (dT p).isSome=true then 0 else 2):=by
 rw [uX,aBH,show(⟨p.AF,p.AB,p.AD,p.AG⟩:AJ)=p from rfl,aDV hp,bsm]
 cases dT p with
 | none=>rfl
 | some s=>rfl
theorem aHO {f:Nat} {p:AJ} (AE:List AN):∀ (AC:List AN) (k:Nat),p.AD=AC++AE->AE.length<k->AC.length+AE.length<=3000000->lR f p k AC.length true=some true:=by
 induction AE with
 | nil=>
  intro AC k he hk _;obtain _ | k:=k
  ·omega
  grind [lR]
 | cons e AE ih=>
  intro AC k he hk hB;obtain _ | k:=k
  ·omega
  simp only [a0G]at hk hB;rw [lR,he,a1E (bJ _ _ _),a1z,bsm,aQ (by omega),bsm,bE AC e]
  grind
theorem al2 {f:Nat} (hf:3900000<=f) {p:AJ} (hp:SmP p) (AE:List AN):∀ (AC:List AN) (k:Nat),p.AD=AC++AE->AE.length<k->AC.length+AE.length<=3000000->lR f p k AC.length false=some (!AE.all okD):=by
 induction AE with
 | nil=>
  intro AC k he hk _;obtain _ | k:=k
  ·omega
  grind [lR]
 | cons e AE ih=>
  intro AC k he hk hB;obtain _ | k:=k
  ·omega
  simp only [a0G]at hk hB;have hmem:e∈p.AD:=by rw [he];simp
  rw [lR,he,a1E (bJ _ _ _),a1y,bP,bsm,rdef_eq (by omega) (hp.Ab e hmem),bsm,bsm,aQ (by omega),bsm,bE AC e];cases h:okD e with
  | false=>rw [a0j,aHO AE (AC++[e]) k (by rw [he];simp) (by omega) (by simp;omega),show(e :: AE).all okD=(okD e && AE.all okD)from rfl,h];rfl
  | true=>grind
theorem aEM {L:Aj} (AE:List Int):∀ (AC:List Int) (k:Nat),L.Am=AC++AE->AE.length<k->AC.length+AE.length<=3000000->lM L k AC.length true=some true:=by
 induction AE with
 | nil=>
  intro AC k he hk _;obtain _ | k:=k
  ·omega
  grind [lM]
 | cons e AE ih=>
  intro AC k he hk hB;obtain _ | k:=k
  ·omega
  simp only [a0G]at hk hB;rw [lM,he,a1E (bJ _ _ _),a1z,bsm,aQ (by omega),bsm,bE AC e]
  grind
theorem aDN {L:Aj} (AE:List Int):∀ (AC:List Int) (k:Nat),L.Al=AC++AE->AE.length<k->AC.length+AE.length<=3000000->lO L k AC.length true=some true:=by
 induction AE with
 | nil=>
  intro AC k he hk _;obtain _ | k:=k
  ·omega
  grind [lO]
 | cons e AE ih=>
  intro AC k he hk hB;obtain _ | k:=k
  ·omega
  simp only [a0G]at hk hB;rw [lO,he,a1E (bJ _ _ _),a1z,bsm,aQ (by omega),bsm,bE AC e]
  grind
theorem al3 {L:Aj} (AE:List Bool):∀ (AC:List Int) (k:Nat),L.Am=AC++ob AE->AE.length<k->AC.length+AE.length<=3000000->lM L k AC.length false=some (!AE.all id):=by
 induction AE with
 | nil=>
  intro AC k he hk _;obtain _ | k:=k
  ·omega
  rw [lM,he,a1D (by simp [ob])];rfl
 | cons e AE ih=>
  intro AC k he hk hB;obtain _ | k:=k
  ·omega
  simp only [a0G]at hk hB;have hob:ob (e :: AE)=(if e=true then 1 else 0) :: ob AE:=rfl
  rw [hob]at he;have he2:=he;rw [bR]at he2;rw [lM,he,a1E (bJ _ _ _),a1y,bP,bsm,bsm,aQ (by omega),bsm,bE AC (if e=true then 1 else 0)];cases e with
  | false=>
   rw [a1D a0i]at he2 ⊢
   grind [aEM,lE]
  | true=>
   grind
theorem al4 {L:Aj} (AE:List Bool):∀ (AC:List Int) (k:Nat),L.Al=AC++ob AE->AE.length<k->AC.length+AE.length<=3000000->lO L k AC.length false=some (!AE.all id):=by
 induction AE with
 | nil=>
  intro AC k he hk _;obtain _ | k:=k
  ·omega
  rw [lO,he,a1D (by simp [ob])];rfl
 | cons e AE ih=>
  intro AC k he hk hB;obtain _ | k:=k
  ·omega
  simp only [a0G]at hk hB;have hob:ob (e :: AE)=(if e=true then 1 else 0) :: ob AE:=rfl
  rw [hob]at he;have he2:=he;rw [bR]at he2;rw [lO,he,a1E (bJ _ _ _),a1y,bP,bsm,bsm,aQ (by omega),bsm,bE AC (if e=true then 1 else 0)];cases e with
  | false=>
   rw [a1D a0i]at he2 ⊢
   grind [aDN,lE]
  | true=>
   grind
def AOut (p:AJ) (o:Option VS) (L:Aj):Prop:=match o with
 | some s=>L=⟨p,s.sz,ob s.AR,ob s.Ab,false⟩
 | none=>L.bad=true
theorem jG {f:Nat} {p:AJ} (hp:SmP p) (hfu:3900000<=f:=by decide):∃ L,uY f p=some L/\AOut p (dT p) L:=by
 have hdefs:dT p≠none->∀ d∈p.AD,okD d=true:=fun h=>by
  cases hc:dT p with
  | none=>exact absurd hc h
  | some s=>exact aAO hc
 obtain⟨fr,nodes,Ae,mn⟩:=p
 have hf:=hp.free;have hn:=hp.nodes;have hd:=hp.Ae
 dsimp only at hf hn hd
 rw [uY]
 dsimp only
 have hno:∀ (q:¬ (fr.length<=12/\nodes.length<=60/\Ae.length<=12/\okF none fr=true)),dT ⟨fr,nodes,Ae,mn⟩=none:=by grind [dT]
 by_cases l1:12<fr.length
 ·rw [a1E (by omega),hno (fun q=>by omega)];exact⟨_,rfl,rfl⟩
 ·rw [a1D (by omega)];by_cases l2:60<nodes.length
  ·rw [a1E (by omega),hno (fun q=>by omega)];exact⟨_,rfl,rfl⟩
  ·rw [a1D (by omega)];by_cases l3:12<Ae.length
   ·rw [a1E (by omega),hno (fun q=>by omega)];exact⟨_,rfl,rfl⟩
   ·rw [a1D (by omega)];have e1:kB f ⟨fr,nodes,Ae,mn⟩ f 0 false=some (!okF none fr):=fr1 hfu (p:=⟨fr,nodes,Ae,mn⟩) fr [] f rfl (by omega) (by simp;omega) hp.names
    have hmk:∀ (k:Nat),k<=60->mk (0:Int) (k:Int)=some (List.replicate k 0):=by grind [mk]
    rw [e1,bsm];cases hok:okF none fr with
    | false=>
     have e2:=aHO (f:=f) (p:=⟨fr,nodes,Ae,mn⟩) Ae [] f rfl (by omega) (by simp;omega)
     simp only [a0J,a0m]at e2;rw [a0j,e2,bsm,hmk _ (by omega),bsm,bsm,hmk _ (by omega),bsm,a1z,hno (by grind)];exact⟨_,rfl,rfl⟩
    | true=>
     have e2:=al2 hfu hp (p:=⟨fr,nodes,Ae,mn⟩) Ae [] f rfl (by omega) (by simp;omega)
     simp only [a0J,a0m]at e2;rw [a0k,e2,bsm,hmk _ (by omega),bsm,bsm,hmk _ (by omega),bsm];cases had:Ae.all okD with
     | false=>
      have:dT ⟨fr,nodes,Ae,mn⟩=none:=by
       grind
      rw [this,a0j,a1z];exact⟨_,rfl,rfl⟩
     | true=>
      rw [a0k,a1y];have hv:=rvis hp (a0o.1 had) nodes.length f (by omega)
      obtain⟨L,h1,h2⟩:=hv.run (start ⟨fr,nodes,Ae,mn⟩) mn fr.length vQ (by grind [vL]) (by omega) (by omega)
      have hst:(⟨⟨fr,nodes,Ae,mn⟩,List.replicate nodes.length 0,List.replicate nodes.length 0,List.replicate Ae.length 0,false⟩:Aj)=⟨⟨fr,nodes,Ae,mn⟩,(start ⟨fr,nodes,Ae,mn⟩).sz,ob (start ⟨fr,nodes,Ae,mn⟩).AR,ob (start ⟨fr,nodes,Ae,mn⟩).Ab,false⟩:=by
       simp [start,ob_rep]
      rw [hst,h1,bsm];have hcv:dT ⟨fr,nodes,Ae,mn⟩=(vis ⟨fr,nodes,Ae,mn⟩ nodes.length (start ⟨fr,nodes,Ae,mn⟩) mn fr.length).bind fun s=>if s.AR.all id=true/\s.Ab.all id=true then some s else none:=by
       grind [dT]
      rw [hcv];cases hc:vis ⟨fr,nodes,Ae,mn⟩ nodes.length (start ⟨fr,nodes,Ae,mn⟩) mn fr.length with
      | none=>
       rw [hc]at h2;obtain⟨g1,g2,g3⟩:=h2;dsimp only at g2 g3
       have e3:=aEM (L:=L) L.Am [] f rfl (by rw [g2];omega) (by simp;omega)
       have e4:=aDN (L:=L) L.Al [] f rfl (by rw [g3];omega) (by simp;omega)
       simp only [a0J,a0m]at e3 e4;rw [g1,e3,bsm,e4,bsm];exact⟨_,rfl,rfl⟩
      | some s=>
       rw [hc]at h2;have h2:L=_:=h2;subst h2;obtain⟨w,_⟩:=(kM _ _).out _ _ _ _ vQ (by grind [vL]) hc
       have wm:s.AR.length=nodes.length:=w.AR;have wd:s.Ab.length=Ae.length:=w.Ab;have e3:=al3 (L:=⟨⟨fr,nodes,Ae,mn⟩,s.sz,ob s.AR,ob s.Ab,false⟩) s.AR [] f rfl (by omega) (by simp;omega)
       simp only [a0J,a0m]at e3;dsimp only
       rw [e3,bsm,bsm];cases hm:s.AR.all id with
       | false=>
        have e4:=aDN (L:=⟨⟨fr,nodes,Ae,mn⟩,s.sz,ob s.AR,ob s.Ab,false⟩) (ob s.Ab) [] f rfl (by rw [lE];omega) (by rw [lE];simp;omega)
        simp only [a0J,a0m]at e4;rw [a0j,e4,bsm,a1D (fun q=>by cases q.1)]
        exact⟨_,rfl,rfl⟩
       | true=>
        have e4:=al4 (L:=⟨⟨fr,nodes,Ae,mn⟩,s.sz,ob s.AR,ob s.Ab,false⟩) s.Ab [] f rfl (by omega) (by simp;omega)
        simp only [a0J,a0m]at e4;rw [a0k,e4,bsm];cases hm2:s.Ab.all id with
        | false=>rw [a1D (fun q=>by cases q.2)];exact⟨_,rfl,rfl⟩
        | true=>rw [a1E ⟨rfl,rfl⟩];exact⟨_,rfl,rfl⟩
theorem aJa {p:AJ} (hp:SmP p):vW F p=some (if (dT p).isSome=true then 0 else 2):=by
 obtain⟨L,h1,h2⟩:=jG (f:=F) hp
 rw [vW,show(⟨p.AF,p.AB,p.AD,p.AG⟩:AJ)=p from rfl,h1,bsm]
 cases hc:dT p with
 | none=>rw [hc]at h2;have h2:L.bad=true:=h2;rw [h2];rfl
 | some s=>rw [hc]at h2;have h2:L=_:=h2;subst h2;rfl
theorem aFk {f:Nat} {p:AJ} (hp:SmP p) {s:VS} (h:dT p=some s) (hf:3900000<=f:=by decide):vB f p=some s.sz:=by
 obtain⟨L,h1,h2⟩:=jG hp hf
 rw [h]at h2
 have h2:L=_:=h2
 simp_all [vB]
open Go.SX Go.SW Go.Dt
def dV (b:Int):Option Int->List Int->Bool
 | _,[]=>true
 | p,n :: l=>(decide (0<=n/\n<b) && (match p with | none=>true | some q=>decide (q<n))) && dV b (some n) l
def pick (l a:List Int):List Int:=a.map fun i=>(idx l i).getD 0
def upto (n:Int) (k:Nat):List Int:=(List.range k).map fun (i:Nat)=>n+(i:Int)
mutual
def opE (l:List Int):AV->Option AV
 | ⟨op,n,ks⟩=>(if op=2 then idx l n else some n).bind fun m=>(opL l ks).bind fun ks'=>some ⟨op,m,ks'⟩
def opL (l:List Int):List AV->Option (List AV)
 | []=>some []
 | k :: ks=>(opE l k).bind fun k'=>(opL l ks).bind fun ks'=>some (k' :: ks')
end
def fN (op:Int):Bool:=decide (op=4\/op=6\/op=7\/op=8)
def opI (y:Ao) (list tk:List Int):Option Int:=
 if y.Op=2 then idx list y.N else if y.Op=6\/y.Op=8 then idx tk y.N else some y.N
def opN (y:Ao) (list tk:List Int):Option AZ:=(opI y list tk).bind fun m=>(opL list y.AX).bind fun a=>some ⟨y.Op,m,a,y.AM⟩
def iC (ch:List Aq):List Int->Option Int
 | []=>some 0
 | c :: js=>(idx ch c).bind fun y=>if 0<=y.Ar/\y.Ar<=3 then(iC ch js).bind fun k=>some (y.Ar+k) else none
structure FS where
 AP:List Bool
 AY:List (List Int)
 AU:List (List Int)
 nd:List AZ
def FS.put (s:FS) (n:Int) (l t:List Int) (z:AZ):FS:=⟨s.AP.set n.toNat true,s.AY.set n.toNat l,s.AU.set n.toNat t,s.nd.set n.toNat z⟩
def bX (g:FS->Int->List Int->Int->Option FS):FS->List (Option (Int × List Int × Int))->Option FS
 | s,[]=>some s
 | _,none :: _=>none
 | s,some t :: l=>(g s t.1 t.2.1 t.2.2).bind fun s=>bX g s l
def kR (d:AN):Prop:=d.AT.length<=30/\d.AS.length<=30/\d.AQ.length<=30
def bF (d:AN):Nat:=d.AT.length+d.AS.length
open Classical in
noncomputable def dU (x:Bool) (d:AN) (ins:List Int) (size:Int) (r:Ah):Option (Int × List Int × Int):=
 if x=true->r.Ad.length<=3 then(iC d.AT r.Ad).bind fun k=>some (r.AW,ins++upto size k.toNat,size+k) else none
def fQ (y:Ao) (list tk:List Int):List Int:=if y.Op=6\/y.Op=8 then tk else list
def iQ (x:Bool) (y:Ao) (list:List Int):Prop:=
 ((fN y.Op=true\/y.AI=[])/\dV list.length none y.AI=true)/\(x=true->y.AX.length<=3/\y.AM.length<=2/\y.AX.all (okE list.length)=true)
open Classical in
noncomputable def eS (x:Bool) (f:AH) (g:FS->Int->List Int->Int->Option FS) (s:FS) (y:Ao) (list tk:List Int) (size:Int):Option FS:=
 if y.Op=4 then
  (idx f.AD y.N).bind fun d=>
  if x=true->kR d then
   (bX g s (d.AQ.map (dU x d (tk++upto size (bF d)) (size+bF d)))).bind fun s=>
   (bX g s (d.AS.map fun p=>some (p.AW,tk++upto size (bF d),size+bF d))).bind fun s=>
   bX g s (y.AM.map fun c=>some (c,list++upto size (bF d),size+bF d))
  else none
 else bX g s (y.AM.map fun c=>some (c,fQ y list tk,size))
open Classical in
noncomputable def aT (x:Bool) (f:AH):Nat->FS->Int->List Int->Int->Option FS
 | 0,_,_,_,_=>none
 | k+1,s,n,list,size=>
  if 0<=n/\n<(f.AB.length:Int)/\idx s.AP n=some false then
   (idx f.AB n).bind fun y=>
   if iQ x y list then
    (opN y list (pick list y.AI)).bind fun z=>eS x f (aT x f k) (s.put n list (pick list y.AI) z) y list (pick list y.AI) size
   else none
  else none
theorem aDO {g h:FS->Int->List Int->Int->Option FS} (H:∀ s n l z s',g s n l z=some s'->h s n l z=some s'):∀ (ts us:List (Option (Int × List Int × Int))) (s s':FS),
 ts.length=us.length->(∀ (i:Nat) (t:Int × List Int × Int),ts[i]? =some (some t)->us[i]? =some (some t))->bX g s ts=some s'->bX h s us=some s'
 | [],[],s,s',_,_,e=>e
 | none :: ts,u :: us,s,s',_,_,e=>by simp [bX]at e
 | some t :: ts,u :: us,s,s',hl,hi,e=>by
  obtain⟨s1,e1,e2⟩:=bind_some e;have hu:u=some t:=by have:=hi 0 t rfl;simpa using this
  subst hu;rw [bX,H _ _ _ _ _ e1,bsm];exact aDO H ts us s1 s' (by simpa using hl) (fun i t h=>by have:=hi (i+1) t (by simpa using h);simpa using this) e2
theorem aDS {g h:FS->Int->List Int->Int->Option FS} (H:∀ s n l z s',g s n l z=some s'->h s n l z=some s') {ts:List (Option (Int × List Int × Int))} {s s':FS} (e:bX g s ts=some s'):bX h s ts=some s':=
 aDO H ts ts s s' rfl (fun _ _ h=>h) e
theorem aH4 {d:AN} {ins:List Int} {size:Int} {r:Ah} {t:Int × List Int × Int} (h:dU true d ins size r=some t):dU false d ins size r=some t:=by
 unfold dU at h ⊢
 split at h
 ·rw [a1E (by intro h;cases h)];exact h
 ·cases h
theorem uZ {f:AH}:∀ (k:Nat) (s:FS) (n:Int) (l:List Int) (z:Int) (s':FS),aT true f k s n l z=some s'->aT false f k s n l z=some s'
 | 0,_,_,_,_,_,h=>by cases h
 | k+1,s,n,l,z,s',h=>by
  rw [aT]at h ⊢;split at h
  ·rename_i h1;rw [a1E h1];obtain⟨y,ey,h⟩:=bind_some h;rw [ey,bsm];split at h
   ·rename_i h2;rw [a1E ⟨h2.1,fun h=>by cases h⟩]
    obtain⟨w,ew,h⟩:=bind_some h;rw [ew,bsm];unfold eS at h ⊢
    split at h
    ·rename_i h3;rw [a1E h3];obtain⟨d,ed,h⟩:=bind_some h;rw [ed,bsm];split at h
     ·rw [a1E (by intro h;cases h)];obtain⟨s1,e1,h⟩:=bind_some h;obtain⟨s2,e2,h⟩:=bind_some h;rw [aDO (uZ k) _ (d.AQ.map (dU false d (pick l y.AI++upto z (bF d)) (z+bF d))) _ _ (by simp) (fun i t ht=>by
       simp only [a0A]at ht ⊢;cases hr:d.AQ[i]? with
       | none=>rw [hr]at ht;cases ht
       | some r=>rw [hr]at ht;simp only [a1s,a1v]at ht ⊢;exact aH4 ht) e1,bsm,aDS (uZ k) e2,bsm]
      exact aDS (uZ k) h
     ·cases h
    ·rename_i h3;rw [a1D h3];exact aDS (uZ k) h
   ·cases h
  ·cases h
structure LimF (f:AH):Prop where
 node:∀ y∈f.AB,y.AX.length<=3/\y.AM.length<=2/\∀ l a,opL l y.AX=some a->y.AX.all (okE l.length)=true
 Ae:∀ d∈f.AD,kR d/\∀ r∈d.AQ,r.Ad.length<=3
theorem zF {g h:FS->Int->List Int->Int->Option FS} (H:∀ s n l z,g s n l z=h s n l z):∀ (ts:List (Option (Int × List Int × Int))) (s:FS),bX g s ts=bX h s ts
 | [],_=>rfl
 | none :: _,_=>rfl
 | some t :: ts,s=>by
  rw [bX,bX,H];cases h s t.1 t.2.1 t.2.2 with
  | none=>rfl
  | some s1=>exact zF H ts s1
theorem zX {f:AH} (L:LimF f):∀ (k:Nat) (s:FS) (n:Int) (l:List Int) (z:Int),aT true f k s n l z=aT false f k s n l z
 | 0,_,_,_,_=>rfl
 | k+1,s,n,l,z=>by
  rw [aT,aT];split
  ·cases ey:idx f.AB n with
   | none=>rfl
   | some y=>
    rw [bsm,bsm];obtain⟨L1,L2,L3⟩:=L.node y (eG ey);cases ew:opN y l (pick l y.AI)with
    | none=>simp
    | some w=>
     have hw:=ew;unfold opN at hw;obtain⟨m,em,hw⟩:=bind_some hw;obtain⟨a,ea,hw⟩:=bind_some hw;have hk:iQ true y l ↔ iQ false y l:=⟨fun h=>⟨h.1,fun h=>by cases h⟩,fun h=>⟨h.1,fun _=>⟨L1,L2,L3 l a ea⟩⟩⟩
     by_cases hn:iQ false y l
     ·rw [a1E (hk.2 hn),a1E hn,bsm,bsm];unfold eS;split
      ·cases ed:idx f.AD y.N with
       | none=>rfl
       | some d=>
        obtain⟨D1,D2⟩:=L.Ae d (eG ed);rw [bsm,bsm,a1E (fun _=>D1),a1E (fun h=>by cases h)]
        have hr:d.AQ.map (dU true d (pick l y.AI++upto z (bF d)) (z+bF d))=d.AQ.map (dU false d (pick l y.AI++upto z (bF d)) (z+bF d)):=
         a0M fun r hr=>by unfold dU;rw [a1E (fun _=>D2 r hr),a1E (fun h=>by cases h)]
        rw [hr,zF (zX L k)];congr 1;funext s1
        rw [zF (zX L k)];congr 1;funext s2
        exact zF (zX L k) _ _
      ·exact zF (zX L k) _ _
     ·rw [a1D (fun h=>hn (hk.1 h)),a1D hn]
  ·rfl
open Go.SX Go.SW Go.Dt
theorem aAp {l:List Int} {op n:Int} {ks:List AV} {e:AV} (h:opE l ⟨op,n,ks⟩=some e):∃ m ks',e=⟨op,m,ks'⟩/\(if op=2 then idx l n else some n)=some m/\opL l ks=some ks':=by
 rw [opE]at h
 obtain⟨m,e1,h⟩:=bind_some h
 obtain⟨ks',e2,h⟩:=bind_some h
 cases h
 exact⟨m,ks',rfl,e1,e2⟩
theorem nN {l:List Int} {k:AV} {ks a:List AV} (h:opL l (k :: ks)=some a):∃ k' ks',a=k' :: ks'/\opE l k=some k'/\opL l ks=some ks':=by
 rw [opL]at h
 obtain⟨k',e1,h⟩:=bind_some h
 obtain⟨ks',e2,h⟩:=bind_some h
 cases h
 exact⟨k',ks',rfl,e1,e2⟩
theorem aAR {l:List Int}:∀ {ks a:List AV},opL l ks=some a->a.length=ks.length
 | [],a,h=>by rw [opL]at h;cases h;rfl
 | k :: ks,a,h=>by
  obtain⟨k',ks',rfl,_,h2⟩:=nN h;simp [aAR h2]
mutual
theorem aCQ {l:List Int}:∀ {e e':AV},opE l e=some e'->nE e'=nE e/\dE e'=dE e
 | ⟨op,n,ks⟩,e',h=>by
  obtain⟨m,ks',rfl,_,h2⟩:=aAp h;have:=aG9 h2;simp only [nE,dE];omega
theorem aG9 {l:List Int}:∀ {ks a:List AV},opL l ks=some a->nL a=nL ks/\dL a=dL ks
 | [],a,h=>by rw [opL]at h;cases h;exact⟨rfl,rfl⟩
 | k :: ks,a,h=>by
  obtain⟨k',ks',rfl,h1,h2⟩:=nN h;have:=aCQ h1;have:=aG9 h2
  simp only [nL,dL];omega
end
theorem rA {α:Type} {xs:List α} {i:Int} {y:α} (h:idx xs i=some y):0<=i/\i<(xs.length:Int):=by
 obtain⟨j,rfl,hj,_⟩:=kL h
 have:=(a0z.1 hj).1
 omega
mutual
theorem fE_two {l l2:List Int} {s:Int}:∀ {e e' e2:AV},opE l e=some e'->fE s e'=true->opE l2 e=some e2->fE l2.length e=true
 | ⟨op,n,ks⟩,e',e2,h,hf,g=>by
  obtain⟨m,ks',rfl,h1,h2⟩:=aAp h;obtain⟨m2,ks2,rfl,g1,g2⟩:=aAp g;have hl:=aAR h2;simp only [fE,a0g]at hf ⊢;refine⟨?_,fL_two h2 hf.2 g2⟩;have hf1:=hf.1;unfold loc at hf1 ⊢
  by_cases o2:op=2
  ·subst o2;rw [a1E rfl]at g1;have:=rA g1;rw [a1D (by omega),a1E rfl]at hf1 ⊢;have:=of_decide_eq_true hf1;exact a1B ⟨by omega,by omega,by omega⟩
  ·rw [a1D o2]at h1;cases h1;by_cases o1:op=1
   ·rw [a1E o1]at hf1 ⊢;rw [<- hl];exact hf1
   ·rw [a1D o1,a1D o2]at hf1 ⊢;rw [<- hl];exact hf1
theorem fL_two {l l2:List Int} {s:Int}:∀ {ks a a2:List AV},opL l ks=some a->fL s a=true->opL l2 ks=some a2->fL l2.length ks=true
 | [],a,a2,_,_,_=>by simp [fL]
 | k :: ks,a,a2,h,hf,g=>by
  obtain⟨k',ks',rfl,h1,h2⟩:=nN h;obtain⟨k2,ks2,rfl,g1,g2⟩:=nN g;simp only [fL,a0g]at hf ⊢;exact⟨fE_two h1 hf.1 g1,fL_two h2 hf.2 g2⟩
end
theorem okE_two {l l2:List Int} {s:Int} {e e' e2:AV} (h:opE l e=some e') (hf:okE s e'=true) (g:opE l2 e=some e2):okE l2.length e=true:=by
 have:=aCQ h
 simp only [okE,a0g,a1C]at hf ⊢
 exact⟨⟨fE_two h hf.1.1 g,by omega⟩,by omega⟩
theorem aGJ {l l2:List Int} {s:Int}:∀ {ks a a2:List AV},opL l ks=some a->a.all (okE s)=true->opL l2 ks=some a2->ks.all (okE l2.length)=true
 | [],_,_,_,_,_=>rfl
 | k :: ks,a,a2,h,hf,g=>by
  obtain⟨k',ks',rfl,h1,h2⟩:=nN h;obtain⟨k2,ks2,rfl,g1,g2⟩:=nN g;simp only [List.all_cons,a0g]at hf ⊢;exact⟨okE_two h1 hf.1 g1,aGJ h2 hf.2 g2⟩
def uB:AZ:=⟨0,0,[],[]⟩
def InvF (f:AH) (s:FS):Prop:=∀ (i:Nat) (w:AZ),s.nd[i]? =some w->w=uB\/∃ y l t,f.AB[i]? =some y/\opN y l t=some w
theorem pC {R:FS->Prop} {g:FS->Int->List Int->Int->Option FS} (H:∀ s n l z s',g s n l z=some s'->R s->R s'):∀ (ts:List (Option (Int × List Int × Int))) (s s':FS),bX g s ts=some s'->R s->R s'
 | [],s,s',e,h=>by cases e;exact h
 | none :: ts,s,s',e,h=>by cases e
 | some t :: ts,s,s',e,h=>by
  obtain⟨s1,e1,e2⟩:=bind_some e;exact pC H ts s1 s' e2 (H _ _ _ _ _ e1 h)
theorem qZ {x:Bool} {f:AH} {R:FS->Prop} (hp:∀ s n y l t z,idx f.AB n=some y->opN y l t=some z->R s->R (s.put n l t z)):∀ (k:Nat) (s:FS) (n:Int) (l:List Int) (z:Int) (s':FS),aT x f k s n l z=some s'->R s->R s'
 | 0,_,_,_,_,_,h,_=>by cases h
 | k+1,s,n,l,z,s',h,h0=>by
  rw [aT]at h;split at h
  ·obtain⟨y,ey,h⟩:=bind_some h;split at h
   ·obtain⟨w,ew,h⟩:=bind_some h;have h1:=hp s n y l _ w ey ew h0;unfold eS at h;split at h
    ·obtain⟨d,ed,h⟩:=bind_some h;split at h
     ·obtain⟨s1,e1,h⟩:=bind_some h;obtain⟨s2,e2,h⟩:=bind_some h;exact pC (qZ hp k) _ _ _ h (pC (qZ hp k) _ _ _ e2 (pC (qZ hp k) _ _ _ e1 h1))
     ·cases h
    ·exact pC (qZ hp k) _ _ _ h h1
   ·cases h
  ·cases h
theorem inv_put {f:AH} {s:FS} {n:Int} {y:Ao} {l t:List Int} {z:AZ} (ey:idx f.AB n=some y) (ez:opN y l t=some z) (h:InvF f s):InvF f (s.put n l t z):=by
 intro i w hw
 simp only [FS.put]at hw
 obtain⟨j,rfl,hj,_⟩:=kL ey
 rw [a0n]at hw
 by_cases hn:j=i
 ·subst hn;rw [List.getElem?_set_self']at hw;cases hs:s.nd[j]? with
  | none=>rw [hs]at hw;cases hw
  | some w0=>
   rw [hs]at hw;have hw:z=w:=by simpa using hw
   subst hw;exact .inr ⟨y,l,t,hj,ez⟩
 ·rw [a0C hn]at hw;exact h i w hw
def GN (p:AJ) (s:VS):Prop:=∀ i:Nat,s.AR[i]? =some true->∃ y s0 z0,p.AB[i]? =some y/\okN p s0 y z0
theorem yY {p:AJ} {g:VS->Int->Int->Option VS} (h:∀ s n z s',g s n z=some s'->GN p s->GN p s'):∀ (l:List (Int × Int)) (s s':VS),cS g s l=some s'->GN p s->GN p s'
 | [],s,s',e,h0=>by cases e;exact h0
 | x :: l,s,s',e,h0=>by
  obtain⟨s1,e1,e2⟩:=bind_some e;exact yY h l s1 s' e2 (h _ _ _ _ e1 h0)
theorem vis_gn {p:AJ} (f:Nat):∀ (s:VS) (n z:Int) (s':VS),vis p f s n z=some s'->GN p s->GN p s':=by
 induction f with
 | zero=>intro s n z s' h;simp [vis]at h
 | succ f ih=>
  intro s n z s' h h0;simp only [vis]at h;split at h
  ·obtain⟨x,ex,h⟩:=bind_some h;split at h
   ·rename_i hok;have hput:∀ sz Ab,GN p ⟨sz,s.AR.set n.toNat true,Ab⟩:=fun sz Ab i hi=>by
     by_cases hn:n.toNat=i
     ·obtain⟨j,rfl,hj2,_⟩:=kL ex;rw [<- hn];simp only [a0n];exact⟨x,s,z,hj2,hok⟩
     ·simp only [a0C hn]at hi;exact h0 i hi
    split at h
    ·obtain⟨d,hd,h⟩:=bind_some h;split at h
     ·obtain⟨s1,e1,h⟩:=bind_some h;obtain⟨s2,e2,e3⟩:=bind_some h;exact yY ih _ _ _ e3 (yY ih _ _ _ e2 (yY ih _ _ _ e1 (hput _ _)))
     ·cases h
    ·exact yY ih _ _ _ h (hput _ _)
   ·cases h
  ·cases h
theorem aKt {p:AJ} {s:VS} (h:dT p=some s):∀ (i:Nat) (y:AZ),p.AB[i]? =some y->∃ s0 z0,okN p s0 y z0:=by
 unfold dT at h
 split at h
 ·obtain⟨s1,h1,h2⟩:=bind_some h;split at h2
  ·rename_i hc;cases h2;have hg:=vis_gn _ _ _ _ _ h1 (fun i hi=>by simp [start,List.getElem?_replicate]at hi)
   have hw:=((kM p p.AB.length).out _ _ _ _ vQ (by rw [vL];exact a1k _) h1).1
   intro i y hi;have hlt:=(a0z.1 hi).1;have hlt2:i<s.AR.length:=by rw [hw.AR];exact hlt
   have ht:s.AR[i]=true:=a0o.1 hc.1 _ (List.getElem_mem hlt2);obtain⟨y',s0,z0,h3,h4⟩:=hg i (by rw [a0y hlt2,ht])
   rw [hi]at h3;cases h3;exact⟨s0,z0,h4⟩
  ·cases h2
 ·cases h
def cJ (f:AH) (s:FS):AJ:=⟨f.AF,s.nd,f.AD,f.AG⟩
theorem aHr {p:AJ} {s:VS} {y:AZ} {z:Int} (h:okN p s y z):y.AX.length<=3/\y.AM.length<=2/\y.AX.all (okE z)=true/\y.Op≠0:=by
 obtain⟨⟨k,c,h1,h2,h3⟩,h4⟩:=h
 have h5:y.AX.length<=3:=by
  unfold okM at h3;split at h3
  ·omega
  ·omega
  ·omega
  ·omega
  ·omega
 refine⟨h5,?_,h4,fun h0=>?_⟩
 ·unfold shp at h1;split at h1
  ·cases h1;omega
  ·split at h1
   ·cases h1;omega
   ·split at h1
    ·cases h1;omega
    ·split at h1
     ·cases h1;omega
     ·split at h1
      ·cases h1;omega
      ·split at h1
       ·cases h1;omega
       ·cases h1
 ·rw [h0]at h1;simp [shp]at h1
theorem limits {f:AH} {s:FS} {vs:VS} (hi:InvF f s) (hl:s.nd.length=f.AB.length) (h:dT (cJ f s)=some vs):LimF f:=by
 refine⟨fun y hy=>?_,fun d hd=>?_⟩
 ·obtain⟨i,hy⟩:=a0S.1 hy;have hlt:i<s.nd.length:=by rw [hl];exact(a0z.1 hy).1
  have hw:s.nd[i]? =some s.nd[i]:=a0y hlt;obtain⟨s0,z0,h1⟩:=aKt h i _ hw;obtain⟨h2,h3,h4,h5⟩:=aHr h1;rcases hi i _ hw with h6 | ⟨y',l,t,h6,h7⟩
  ·rw [h6]at h5;exact absurd rfl h5
  ·rw [hy]at h6;cases h6
   unfold opN at h7;obtain⟨m,_,h7⟩:=bind_some h7;obtain⟨a,ha,h7⟩:=bind_some h7;have h8:=(a1u h7).symm;rw [h8]at h2 h3 h4;dsimp only at h2 h3 h4
   have:=aAR ha;exact⟨by omega,h3,fun l2 a2 ha2=>aGJ ha h4 ha2⟩
 ·obtain⟨h1,h2,h3,h4,h5⟩:=gO (aAO h d hd);exact⟨⟨h1,h2,h3⟩,fun r hr=>(h5 r hr).1⟩
def gQ (f:AH):FS:=⟨List.replicate f.AB.length false,List.replicate f.AB.length [],List.replicate f.AB.length [],List.replicate f.AB.length uB⟩
noncomputable def iH (x:Bool) (f:AH):Option FS:=
 if (f.AB.length<=60/\f.AF.length<=12/\f.AD.length<=12)/\dV f.AF.length none f.AI=true then aT x f f.AB.length (gQ f) f.AG f.AI f.AF.length else none
noncomputable def fU (x:Bool) (f:AH):Option FS:=(iH x f).bind fun s=>if (dT (cJ f s)).isSome=true then some s else none
theorem zO {x:Bool} {f:AH} {s:FS} (h:iH x f=some s):InvF f s/\s.nd.length=f.AB.length:=by
 unfold iH at h
 split at h
 ·refine qZ (R:=fun s=>InvF f s/\s.nd.length=f.AB.length) (fun s n y l t z e1 e2 h=>⟨inv_put e1 e2 h.1,by simp only [FS.put,a0K];exact h.2⟩) _ _ _ _ _ _ h ⟨fun i w hw=> .inl ?_,by simp [gQ]⟩
  simp only [gQ,List.getElem?_replicate]at hw;split at hw
  ·exact(a1u hw).symm
  ·cases hw
 ·cases h
theorem aIK (f:AH):fU true f=fU false f:=by
 unfold fU
 cases h1:iH false f with
 | none=>
  cases h2:iH true f with
  | none=>rfl
  | some s=>
   unfold iH at h1 h2;split at h2
   ·rename_i hc;rw [a1E hc,uZ _ _ _ _ _ _ h2]at h1;cases h1
   ·cases h2
 | some s=>
  rw [bsm];by_cases hk:(dT (cJ f s)).isSome=true
  ·obtain⟨vs,hvs⟩:=Option.isSome_iff_exists.1 hk;obtain⟨i1,i2⟩:=zO h1;have L:=limits i1 i2 hvs;have h2:iH true f=some s:=by
    unfold iH at h1 ⊢
    rw [zX L];exact h1
   rw [h2,bsm]
  ·rw [a1D hk];cases h2:iH true f with
   | none=>rfl
   | some s2=>
    have h3:iH false f=some s2:=by
     unfold iH at h2 ⊢
     split at h2
     ·rename_i hc;rw [a1E hc];exact uZ _ _ _ _ _ _ h2
     ·cases h2
    rw [h1]at h3;cases h3
    rw [bsm,a1D hk]
open Go.SX Go.SW Go.Dt
theorem dM {β:Type} {l:List β} (h:l.length<=1000000000):cQ l=some l:=a1E h
theorem pD {α:Type} {z:α} {n:Nat} (h:n<=1000000000):mk z (n:Int)=some (List.replicate n z):=by grind [mk]
structure SmF (f:AH):Prop where
 nodes:f.AB.length<=2000000
 Ae:f.AD.length<=2000000
 free:f.AF.length<=2000000
 names:∀ x∈f.AF,x.size<=2000000
 args:∀ x∈f.AB,x.AX.length<=2000000/\x.AM.length<=2000000/\∀ e∈x.AX,nE e<=2000000
 takes:∀ x∈f.AB,x.AI.length<=2000000
 Ab:∀ d∈f.AD,smD d
 take:f.AI.length<=2000000
theorem eV {α:Type} {xs:List α} {i:Int} (h0:0<=i) (h1:i<(xs.length:Int)):∃ y,idx xs i=some y:=by
 simp_all [idx]
theorem aGL (b:Int):∀ (l:List Int) (q:Int),q<b->dV b (some q) l=true->(l.length:Int)<=b - 1 - q
 | [],q,h,_=>by simp;omega
 | n :: l,q,h,e=>by
  simp only [dV,a0g,a1C]at e;have:=aGL b l n e.1.1.2 e.2;simp only [a0G];omega
theorem xB {b:Int} (hb:0<=b):∀ {l:List Int},dV b none l=true->(l.length:Int)<=b
 | [],_=>by simpa using hb
 | n :: l,e=>by
  simp only [dV,a0g,a1C]at e;have:=aGL b l n e.1.1.2 e.2
  grind
theorem zT {b:Int}:∀ {l:List Int} {p:Option Int},dV b p l=true->∀ i∈l,0<=i/\i<b
 | [],_,_,i,h=>by cases h
 | n :: l,p,e,i,h=>by
  simp only [dV,a0g,a1C]at e;cases h with
  | head=>exact e.1.1
  | tail _ h=>exact zT e.2 i h
theorem aIN (AC:List Int):AC=[]\/∃ p q,AC=p++[q]:=by
 rcases List.eq_nil_or_concat AC with h | ⟨p,q,h⟩
 ·exact .inl h
 grind
theorem aKO {b:Int} (AE:List Int):∀ (AC:List Int) (k:Nat),AE.length<k->AC.length+AE.length<=3000000 ->
 mP (AC++AE) b k AC.length=some (if dV b AC.getLast? AE=true then .inl () else .inr false):=by
 induction AE with
 | nil=>
  intro AC k hk _;obtain _ | k:=k
  ·omega
  rw [mP,a1D (by simp)];simp [dV]
 | cons e AE ih=>
  intro AC k hk hB;obtain _ | k:=k
  ·omega
  simp only [a0G]at hk hB;rw [mP,a1E (bJ _ _ _),bP,bsm];have hn:=ih (AC++[e]) k (by omega) (by simp;omega)
  rw [List.getLast?_append,List.getLast?_singleton,Option.some_or]at hn;by_cases c1:e<0
  ·rw [a1E c1,a1D (by grind [dV])];rfl
  rw [a1D c1];by_cases c2:b<=e
  ·rw [a1E c2,a1D (by grind [dV])];rfl
  rw [a1D c2];rcases aIN AC with rfl | ⟨p,q,rfl⟩
  ·rw [a1D (by simp),bsm];dsimp only
   rw [aQ (by simp),bsm,bR,bE,hn]
   grind [dV]
  ·rw [a1E (by simp),aQ (by simp at hB ⊢;omega),bsm];have hi:idx (p++[q]++e :: AE) (((p++[q]).length:Int) - 1)=some q:=by
    simp_all [idx]
   rw [hi,bsm];by_cases c3:e<=q
   ·grind [dV]
   ·rw [a1D c3,bsm];dsimp only
    rw [aQ (by omega),bsm,bR,bE,hn];have:dV b ((p++[q]).getLast?) (e :: AE)=dV b (some e) AE:=by
     simp only [List.getLast?_append,List.getLast?_singleton,Option.some_or,dV]
     simp_all
    rw [this]
theorem aDR {AA:Nat} {l:List Int} {b:Int} (hf:l.length<AA) (hB:l.length<=3000000):oE AA l b=some (dV b none l):=by
 have h:=aKO (b:=b) l [] AA hf (by simp;omega)
 grind [oE]
theorem aFh {AA:Nat} {l:List Int} {b:Int} (hf:l.length<AA) (hB:l.length<=3000000):vO AA l b=some (dV b none l):=by
 have hl:∀ (k:Nat) (i:Int),uM l b k i=mP l b k i:=fun k=>by
  induction k with
  | zero=>intro i;rfl
  | succ k ih=>
   intro i;rw [uM,mP];split
   ·cases h1:idx l i with
    | none=>rfl
    | some y=>
     simp only [bsm];congr 1
     funext o
     grind
   ·rfl
 rw [<- aDR hf hB,vO,oE,hl]
 rfl
theorem aIc {l:List Int} (AE:List Int):∀ (AC acc:List Int) (k:Nat),AE.length<k->AC.length+AE.length<=3000000->acc.length+AE.length<=1000000000->(∀ i∈AE,0<=i/\i<(l.length:Int)) ->
 mZ l (AC++AE) k acc AC.length=some (acc++pick l AE):=by
 induction AE with
 | nil=>
  intro AC acc k hk _ _ _;obtain _ | k:=k
  ·omega
  rw [mZ,a1D (by simp)];simp [pick]
 | cons e AE ih=>
  intro AC acc k hk hB hA hi;obtain _ | k:=k
  ·omega
  simp only [a0G]at hk hB hA;obtain⟨y,hy⟩:=eV (hi e (.head _)).1 (hi e (.head _)).2;rw [mZ,a1E (bJ _ _ _),bP,bsm,hy,bsm,dM (by simp;omega),bsm,aQ (by omega),bsm,bR,bE,ih (AC++[e]) _ k (by omega) (by simp;omega) (by simp;omega) (fun i h=>hi i (.tail _ h))];simp [pick,hy]
theorem pick_p {AA:Nat} {l a:List Int} (hf:a.length<AA) (hB:a.length<=3000000) (hi:∀ i∈a,0<=i/\i<(l.length:Int)):sL AA l a=some (pick l a):=by
 have h:=aIc (l:=l) a [] [] AA hf (by simp;omega) (by simp;omega) hi
 grind [sL]
theorem pick_r {AA:Nat} {l a:List Int} (hf:a.length<AA) (hB:a.length<=3000000) (hi:∀ i∈a,0<=i/\i<(l.length:Int)):wD AA l a=some (pick l a):=by
 have hl:∀ (k:Nat) (x:List Int) (i:Int),wL l a k x i=mZ l a k x i:=fun k=>by
  induction k with
  | zero=>intro x i;rfl
  | succ k ih=>
   intro x i;rw [wL,mZ];simp only [ih]
 rw [<- pick_p hf hB hi,wD,sL,hl]
theorem aAU {l a:List Int}:(pick l a).length=a.length:=by simp [pick]
theorem aC1 (n:Int) (i:Nat):upto n (i+1)=upto n i++[n+(i:Int)]:=by simp [upto,List.range_succ]
theorem kN {n:Int} {k:Nat}:(upto n k).length=k:=by simp [upto]
theorem aGd {n:Int} {m:Nat} (hn:0<=n/\n<=1000000000) (hm:m<=500000000):∀ (j i k:Nat),i+j=m->j<k->oO n m k (upto n i) i=some (upto n m)
 | 0,i,k+1,h,_=>by
  grind [oO]
 | j+1,i,k+1,h,hk=>by
  rw [oO,a1E (by omega),aQ (by omega),bsm,dM (by simp [kN];omega),bsm,aQ (by omega),bsm,<- aC1,show(i:Int)+1=((i+1:Nat):Int)from by omega];exact aGd hn hm j (i+1) k (by omega) (by omega)
theorem from_p {AA:Nat} {n m:Int} (hn:0<=n/\n<=1000000000) (h0:0<=m) (hm:m<=500000000) (hf:m<AA):vH AA n m=some (upto n m.toNat):=by
 obtain⟨m,rfl⟩:=Int.eq_ofNat_of_zero_le h0
 have h:=aGd (m:=m) hn (by omega) m 0 AA (by omega) (by omega)
 rw [a0n]
 rw [vH,show oO n m AA [] 0=_ from h,bsm]
theorem aGW {n:Int} {m:Nat} {l:List Int} (hn:0<=n/\n<=1000000000) (hm:l.length+m<=900000000):∀ (j i k:Nat),i+j=m->j<k->qM n m k (l++upto n i) i=some (l++upto n m)
 | 0,i,k+1,h,_=>by
  grind [qM]
 | j+1,i,k+1,h,hk=>by
  rw [qM,a1E (by omega),aQ (by omega),bsm,dM (by simp [kN];omega),bsm,aQ (by omega),bsm,List.append_assoc,<- aC1,show(i:Int)+1=((i+1:Nat):Int)from by omega];exact aGW hn hm j (i+1) k (by omega) (by omega)
theorem aDc {AA:Nat} {n m:Int} {l:List Int} (hn:0<=n/\n<=1000000000) (h0:0<=m) (hm:(l.length:Int)+m<=900000000) (hf:m<AA):oH AA l n m=some (l++upto n m.toNat):=by
 obtain⟨m,rfl⟩:=Int.eq_ofNat_of_zero_le h0
 have h:=aGW (m:=m) (l:=l) hn (by omega) m 0 AA (by omega) (by omega)
 grind [oH,upto,dM]
theorem aCD {a b:List Int} (h:a.length+b.length<=1000000000):rV a b=some (a++b):=by
 grind [rV,jR,dM]
theorem aCv (op:Int):qT op=some (fN op):=by
 rw [qT]
 grind [fN]
theorem aK8 {rec:AV->List Int->Option (AV × Bool)} {op n:Int} {l:List Int} {x:Int} (AE:List AV):∀ (AC acc:List AV) (k:Nat),AE.length<k->AC.length+AE.length<=3000000->acc.length+AE.length<=1000000000 ->
 (∀ e∈AE,∃ e' b,rec e l=some (e',b)/\opE l e=if b=true then some e' else none) ->
  ∃ r,oF rec ⟨op,n,AC++AE⟩ l x k AC.length acc=some r/\match opL l AE with | some ks=>r= .inl (acc++ks) | none=>∃ e',r= .inr (e',false):=by
 induction AE with
 | nil=>
  intro AC acc k hk _ _ _;obtain _ | k:=k
  ·omega
  exact⟨_,by rw [oF,a1D (by simp)],by simp [opL]⟩
 | cons e AE ih=>
  intro AC acc k hk hB hA hr;obtain _ | k:=k
  ·omega
  simp only [a0G]at hk hB hA;obtain⟨e',b,h1,h2⟩:=hr e (.head _);rw [oF,a1E (bJ _ _ _),bP,bsm,lQ,h1,bsm];cases b with
  | true=>
   rw [a1E rfl]at h2;simp only [a1z,lQ];rw [dM (by simp;omega),bsm,aQ (by omega),bsm,bR,bE];obtain⟨r,g1,g2⟩:=ih (AC++[e]) (acc++[e']) k (by omega) (by simp;omega) (by simp;omega) (by grind)
   refine⟨r,g1,?_⟩
   grind [opL]
  | false=>
   simp_all [opL]
theorem exp_p (AA:Nat):∀ (e:AV) (l:List Int),nE e<AA->nE e<=2000000->∃ e' b,kZ AA e l=some (e',b)/\opE l e=if b=true then some e' else none:=by
 induction AA with
 | zero=>intro e l h;omega
 | succ AA ih=>
  intro ⟨op,n,ks⟩ l hf hB
  simp only [nE]at hf hB;have hlen:=nD ks;have hloop:=fun x=>aK8 (rec:=kZ AA) (op:=op) (n:=n) (l:=l) (x:=x) ks [] [] AA (by omega) (by simp;omega) (by simp;omega) (fun e he=>ih e l (by have:=gT he;omega) (by have:=gT he;omega))
  simp only [a0X,a0J,a0m]at hloop;have fin:∀ x,(if op=2 then idx l n else some n)=some x->∃ e' b,((oF (kZ AA) ⟨op,n,ks⟩ l x AA 0 []).bind fun o=>match o with
   | Sum.inr r=>some r
   | Sum.inl x2=>some ((⟨op,x,x2⟩:AV),true))=some (e',b)/\opE l ⟨op,n,ks⟩=if b=true then some e' else none:=fun x hx=>by
   obtain⟨r,g1,g2⟩:=hloop x;rw [g1,bsm,opE,hx,bsm];cases ho:opL l ks with
   | none=>rw [ho]at g2;obtain⟨e',rfl⟩:=g2;exact⟨e',false,rfl,rfl⟩
   | some a=>rw [ho]at g2;dsimp only at g2;subst g2;exact⟨_,true,rfl,rfl⟩
  rw [kZ];dsimp only
  by_cases o2:op=2
  ·rw [a1E o2];by_cases c1:n<0
   ·rw [a1E c1];refine⟨_,false,rfl,?_⟩;rw [opE,a1E o2,show idx l n=none from by unfold idx;rw [a1D (by omega)]];rfl
   ·rw [a1D c1];by_cases c2:(l.length:Int)<=n
    ·rw [a1E c2];refine⟨_,false,rfl,?_⟩;have:idx l n=none:=by
      cases hi:idx l n with
      | none=>rfl
      | some y=>have:=rA hi;omega
     rw [opE,a1E o2,this];rfl
    ·rw [a1D c2];obtain⟨y,hy⟩:=eV (xs:=l) (i:=n) (by omega) (by omega)
     rw [hy,bsm,bsm];exact fin y (by rw [a1E o2,hy])
  ·rw [a1D o2,bsm];exact fin n (by rw [a1D o2])
theorem aH1 {rec:AV->List Int->Option AV} {op n:Int} {l:List Int} (AE:List AV):∀ (AC acc ks:List AV) (k:Nat),AE.length<k->AC.length+AE.length<=3000000->acc.length+AE.length<=1000000000 ->
 (∀ e∈AE,∀ e',opE l e=some e'->rec e l=some e')->opL l AE=some ks->tV rec ⟨op,n,AC++AE⟩ l k acc AC.length=some (acc++ks):=by
 induction AE with
 | nil=>
  intro AC acc ks k hk _ _ _ h;obtain _ | k:=k
  ·omega
  rw [opL]at h;cases h
  rw [tV,a1D (by simp)];simp
 | cons e AE ih=>
  intro AC acc ks k hk hB hA hr h;obtain _ | k:=k
  ·omega
  simp only [a0G]at hk hB hA;obtain⟨e',ks',rfl,h1,h2⟩:=nN h;rw [tV,a1E (bJ _ _ _),bP,bsm,hr e (.head _) e' h1,bsm,dM (by simp;omega),bsm,aQ (by omega),bsm,bR,bE,ih (AC++[e]) (acc++[e']) ks' k (by omega) (by simp;omega) (by simp;omega) (fun x hx=>hr x (.tail _ hx)) h2];simp
theorem exp_r (AA:Nat):∀ (e e':AV) (l:List Int),nE e<AA->nE e<=2000000->opE l e=some e'->mX AA e l=some e':=by
 induction AA with
 | zero=>intro e e' l h;omega
 | succ AA ih=>
  intro ⟨op,n,ks⟩ e' l hf hB h
  simp only [nE]at hf hB;have hlen:=nD ks;obtain⟨m,ks',rfl,h1,h2⟩:=aAp h;have hloop:=aH1 (rec:=mX AA) (op:=op) (n:=n) (l:=l) ks [] [] ks' AA (by omega) (by simp;omega) (by simp;omega) (fun e he e' h=>ih e e' l (by have:=gT he;omega) (by have:=gT he;omega) h) h2
  grind [mX]
theorem open_ok:(∀ (e:AV) (l:List Int),fE l.length e=true->∃ e',opE l e=some e')/\∀ (ks:List AV) (l:List Int),fL l.length ks=true->∃ a,opL l ks=some a:=⟨go,goL⟩
where
 go:∀ (e:AV) (l:List Int),fE l.length e=true->∃ e',opE l e=some e'
  | ⟨op,n,ks⟩,l,h=>by
   simp only [fE,a0g]at h;obtain⟨a,ha⟩:=goL ks l h.2;have h1:=h.1;rw [opE];by_cases o2:op=2
   ·unfold loc at h1;rw [a1D (by omega),a1E o2]at h1;have h1:=of_decide_eq_true h1;obtain⟨y,hy⟩:=eV (xs:=l) h1.1 h1.2.1;exact⟨_,by rw [a1E o2,hy,bsm,ha,bsm]⟩
   ·exact⟨_,by rw [a1D o2,bsm,ha,bsm]⟩
 goL:∀ (ks:List AV) (l:List Int),fL l.length ks=true->∃ a,opL l ks=some a
  | [],l,_=>⟨[],by rw [opL]⟩
  | k :: ks,l,h=>by
   simp only [fL,a0g]at h;obtain⟨e',h1⟩:=go k l h.1;obtain⟨a,h2⟩:=goL ks l h.2;exact⟨_,by rw [opL,h1,bsm,h2,bsm]⟩
theorem aCZ {ch:List Aq}:∀ {js:List Int} {k:Int},iC ch js=some k->0<=k/\k<=3*js.length
 | [],k,h=>by cases h;simp
 | c :: js,k,h=>by
  rw [iC]at h;obtain⟨y,_,h⟩:=bind_some h;split at h
  ·rename_i hy;obtain⟨k',h1,h⟩:=bind_some h;cases h;have:=aCZ h1
   grind
  ·cases h
theorem aKP {d:AN} {a nd:Int} (AE:List Int):∀ (AC:List Int) (k:Nat) (w:Int),AE.length<k->AC.length+AE.length<=3000000->0<=w->w+3*AE.length<=1000000000 ->
 mU d ⟨a,AC++AE,nd⟩ k w AC.length=some (match iC d.AT AE with | some m=> .inl (w+m) | none=> .inr (-1)):=by
 induction AE with
 | nil=>
  intro AC k w hk _ _ _;obtain _ | k:=k
  ·omega
  rw [mU,a1D (by simp)];simp [iC]
 | cons e AE ih=>
  intro AC k w hk hB h0 hw;obtain _ | k:=k
  ·omega
  simp only [a0G]at hk hB hw;rw [mU,a1E (bJ _ _ _)];dsimp only
  rw [bP,bsm,iC];by_cases c1:e<0
  ·grind [idx]
  rw [a1D c1];by_cases c2:(d.AT.length:Int)<=e
  ·grind [idx]
  rw [a1D c2];obtain⟨y,hy⟩:=eV (xs:=d.AT) (i:=e) (by omega) (by omega)
  simp only [hy,bsm];by_cases c3:y.Ar<0
  ·grind
  rw [a1D c3];by_cases c4:3<y.Ar
  ·grind
  rw [a1D c4,a1E (by omega),aQ (by omega),bsm,aQ (by omega),bsm,bR,bE,ih (AC++[e]) k _ (by omega) (by simp;omega) (by omega) (by omega)]
  grind
theorem more_p {AA:Nat} {d:AN} {r:Ah} (hf:r.Ad.length<AA) (hB:r.Ad.length<=2000000):qQ AA d r=some (match iC d.AT r.Ad with | some m=>m | none=>-1):=by
 have h:=aKP (d:=d) (a:=r.At) (nd:=r.AW) r.Ad [] AA 0 hf (by simp;omega) (by omega) (by omega)
 simp only [a0X,a0J,a0m]at h
 rw [qQ,h,bsm]
 grind
theorem bring_r {AA:Nat} {d:AN} {r:Ah} (hf:r.Ad.length<AA) (hB:r.Ad.length<=2000000):uD AA d r=some (if r.Ad.length<=3 then match iC d.AT r.Ad with | some m=>m | none=>-1 else -1):=by
 have hl:∀ (k:Nat) (x i:Int),uV d r k x i=mU d r k x i:=fun k=>by
  induction k with
  | zero=>intro x i;rfl
  | succ k ih=>
   intro x i;rw [uV,mU];simp only [ih]
 rw [uD]
 by_cases c:3<(r.Ad.length:Int)
 ·grind
 ·rw [a1D c,a1E (by omega),<- more_p hf hB,qQ,hl];rfl
theorem aKU {d:AN} (AE:List Ah):∀ (AC:List Ah) (k:Nat),d.AQ=AC++AE->AE.length<k->AC.length+AE.length<=3000000->(∀ r∈AE,r.Ad.length<=2000000)->rC d k AC.length AC=some (AC++AE):=by
 induction AE with
 | nil=>
  intro AC k hd hk _ _;obtain _ | k:=k
  ·omega
  grind [rC]
 | cons e AE ih=>
  intro AC k hd hk hB hr;obtain _ | k:=k
  ·omega
  simp only [a0G]at hk hB;have:=hr e (.head _);rw [rC,hd,a1E (bJ _ _ _),bP,bsm,jR,a0X,dM (by omega),bsm,bsm,show(⟨e.At,e.Ad,e.AW⟩:Ah)=e from rfl,dM (by simp;omega),bsm,aQ (by omega),bsm,bE,ih (AC++[e]) k (by rw [hd,bR]) (by omega) (by simp;omega) (fun x hx=>hr x (.tail _ hx)),<- bR]
theorem aLu {AA:Nat} {ds:List AN} (AE:List AN):∀ (AC:List AN) (k:Nat),ds=AC++AE->AE.length<k->AC.length+AE.length<=3000000->(∀ d∈AE,smD d)->2000000<AA->rL AA ds k AC AC.length=some (AC++AE):=by
 induction AE with
 | nil=>
  intro AC k hd hk _ _ _;obtain _ | k:=k
  ·omega
  grind [rL]
 | cons e AE ih=>
  intro AC k hd hk hB hr hf;obtain _ | k:=k
  ·omega
  simp only [a0G]at hk hB;have hs:=hr e (.head _);obtain⟨s1,s2,s3,s4⟩:=hs;have h2:=aKU (d:=e) e.AQ [] AA rfl (by omega) (by simp;omega) s4
  simp only [a0X,a0J,a0m]at h2;rw [rL,hd,a1E (bJ _ _ _),bP,bsm,aAJ,a0X,dM (by omega),bsm,bsm,aAD,a0X,dM (by omega),bsm,bsm,h2,bsm,show(⟨e.AT,e.AS,e.AQ⟩:AN)=e from rfl,dM (by simp;omega),bsm,bsm,aQ (by omega),bsm,<- hd,bE,ih (AC++[e]) k (by rw [hd,bR]) (by omega) (by simp;omega) (fun x hx=>hr x (.tail _ hx)) hf,<- bR,hd]
theorem copied_p {AA:Nat} {ds:List AN} (hf:2000000<AA) (hB:ds.length<=2000000) (hs:∀ d∈ds,smD d):yF AA ds=some ds:=by
 have h:=aLu (AA:=AA) (ds:=ds) ds [] AA rfl (by omega) (by simp;omega) hs hf
 grind [yF]
theorem aIg {ds:List AN} {i:Int} {d:AN} (hi:idx ds i=some d) (AE:List Ah):∀ (AC:List Ah) (k:Nat),d.AQ=AC++AE->AE.length<k->AC.length+AE.length<=3000000->(∀ r∈AE,r.Ad.length<=2000000)->sN ds i k AC.length AC=some (AC++AE):=by
 induction AE with
 | nil=>
  intro AC k hd hk _ _;obtain _ | k:=k
  ·omega
  grind [sN]
 | cons e AE ih=>
  intro AC k hd hk hB hr;obtain _ | k:=k
  ·omega
  simp only [a0G]at hk hB;have:=hr e (.head _);rw [sN,hi,bsm,hd,a1E (bJ _ _ _),bsm,hd,bP,bsm,a0X,dM (by omega),bsm,show(⟨e.At,e.Ad,e.AW⟩:Ah)=e from rfl,dM (by simp;omega),bsm,aQ (by omega),bsm,bE,ih (AC++[e]) k (by rw [hd,bR]) (by omega) (by simp;omega) (fun x hx=>hr x (.tail _ hx)),<- bR]
theorem aKX {AA:Nat} {ds:List AN} (AE:List AN):∀ (AC:List AN) (k:Nat),ds=AC++AE->AE.length<k->AC.length+AE.length<=3000000->(∀ d∈AE,smD d)->2000000<AA->sQ AA ds k AC AC.length=some (AC++AE):=by
 induction AE with
 | nil=>
  intro AC k hd hk _ _ _;obtain _ | k:=k
  ·omega
  grind [sQ]
 | cons e AE ih=>
  intro AC k hd hk hB hr hf;obtain _ | k:=k
  ·omega
  simp only [a0G]at hk hB;have hs:=hr e (.head _);obtain⟨s1,s2,s3,s4⟩:=hs;have hi:idx ds (AC.length:Int)=some e:=by grind [idx]
  have h2:=aIg hi e.AQ [] AA rfl (by omega) (by simp;omega) s4
  simp only [a0X,a0J,a0m]at h2;rw [sQ,a1E (by grind),hi,bsm,a0X,dM (by omega),bsm,bsm,a0X,dM (by omega),bsm,h2,bsm,show(⟨e.AT,e.AS,e.AQ⟩:AN)=e from rfl,dM (by simp;omega),bsm,bsm,aQ (by omega),bsm,bE,ih (AC++[e]) k (by rw [hd,bR]) (by omega) (by simp;omega) (fun x hx=>hr x (.tail _ hx)) hf,<- bR]
theorem copied_r {AA:Nat} {ds:List AN} (hf:2000000<AA) (hB:ds.length<=2000000) (hs:∀ d∈ds,smD d):zP AA ds=some ds:=by
 have h:=aKX (AA:=AA) (ds:=ds) ds [] AA rfl (by omega) (by simp;omega) hs hf
 grind [zP]
open Go.SX Go.SW Go.Dt
def unF (s:FS):Nat:=s.AP.countP (fun b=>!b)
structure WF (f:AH) (s:FS):Prop where
 AP:s.AP.length=f.AB.length
 AY:s.AY.length=f.AB.length
 AU:s.AU.length=f.AB.length
 nd:s.nd.length=f.AB.length
theorem WF.put {f:AH} {s:FS} {n:Int} {l t:List Int} {z:AZ} (h:WF f s):WF f (s.put n l t z):=⟨by simp [FS.put,h.AP],by simp [FS.put,h.AY],by simp [FS.put,h.AU],by simp [FS.put,h.nd]⟩
theorem vX {x:Bool} {f:AH} {k:Nat} {s s':FS} {n:Int} {l:List Int} {z:Int} (h:aT x f k s n l z=some s') (w:WF f s):WF f s':=qZ (R:=WF f) (fun _ _ _ _ _ _ _ _ h=>h.put) k s n l z s' h w
theorem countP_set {l:List Bool}:∀ {i:Nat},l[i]? =some false->(l.set i true).countP (fun b=>!b)+1=l.countP (fun b=>!b):=by
 induction l with
 | nil=>intro i h;simp at h
 | cons b l ih=>
  intro i h;cases i with
  | zero=>simp at h;subst h;simp
  | succ i=>
   have:=ih (i:=i) (by simpa using h)
   simp only [List.set_cons_succ,List.countP_cons];omega
theorem aDk {s:FS} {n:Int} {l t:List Int} {z:AZ} (h:idx s.AP n=some false):unF (s.put n l t z)+1=unF s:=by
 obtain⟨j,rfl,hj,_⟩:=kL h
 simp only [unF,FS.put,a0n]
 exact countP_set hj
theorem aG2 {s:FS} {n:Int} (h:idx s.AP n=some false):0<unF s:=List.countP_pos_iff.2 ⟨false,eG h,rfl⟩
theorem uH {g:FS->Int->List Int->Int->Option FS} (H:∀ s n l z s',g s n l z=some s'->unF s'<=unF s):∀ (ts:List (Option (Int × List Int × Int))) (s s':FS),bX g s ts=some s'->unF s'<=unF s
 | [],s,s',e=>by cases e;exact a1k _
 | none :: ts,s,s',e=>by cases e
 | some t :: ts,s,s',e=>by
  obtain⟨s1,e1,e2⟩:=bind_some e;exact a1l (uH H ts s1 s' e2) (H _ _ _ _ _ e1)
theorem pV {x:Bool} {f:AH}:∀ (k:Nat) (s:FS) (n:Int) (l:List Int) (z:Int) (s':FS),aT x f k s n l z=some s'->unF s'+1<=unF s
 | 0,_,_,_,_,_,h=>by cases h
 | k+1,s,n,l,z,s',h=>by
  have ih:∀ s n l z s',aT x f k s n l z=some s'->unF s'<=unF s:=fun s n l z s' h=>by have:=pV k s n l z s' h;omega
  rw [aT]at h;split at h
  ·rename_i hc;obtain⟨y,ey,h⟩:=bind_some h;split at h
   ·obtain⟨w,ew,h⟩:=bind_some h;have h1:=aDk (l:=l) (t:=pick l y.AI) (z:=w) hc.2.2;unfold eS at h;split at h
    ·obtain⟨d,ed,h⟩:=bind_some h;split at h
     ·obtain⟨s1,e1,h⟩:=bind_some h;obtain⟨s2,e2,h⟩:=bind_some h;have:=uH ih _ _ _ h;have:=uH ih _ _ _ e2;have:=uH ih _ _ _ e1;omega
     ·cases h
    ·have:=uH ih _ _ _ h;omega
   ·cases h
  ·cases h
def cvP (f:AH) (s:FS):Ai:=⟨f,s.AY,s.AU,s.AP,⟨f.AF,s.nd,f.AD,f.AG⟩⟩
abbrev TupP:=List ByteArray × List Int × List Ao × List AN × Int × List (List Int) × List (List Int) × List Bool × List ByteArray × List AZ × List AN × Int
def tupP (f:AH) (s:FS):TupP:=(f.AF,f.AI,f.AB,f.AD,f.AG,s.AY,s.AU,s.AP,f.AF,s.nd,f.AD,f.AG)
def OutP (f:AH) (o:Option FS) (r:TupP ⊕ (Ai × Bool)):Prop:=match o with
 | some s'=>r= .inl (tupP f s')
 | none=>∃ s',r= .inr (cvP f s',false)
def ResP (f:AH) (o:Option FS) (r:Ai × Bool):Prop:=match o with
 | some s'=>r=(cvP f s',true)
 | none=>∃ s',r=(cvP f s',false)
structure PV (f:AH) (k:Nat) (rec:Ai->Int->List Int->Int->Option (Ai × Bool)):Prop where
 run:∀ (s:FS) (n:Int) (l:List Int) (z:Int),WF f s->unF s<=k->(l.length:Int)<=z->z+6000100*k<=400000000->∃ r,rec (cvP f s) n l z=some r/\ResP f (aT false f k s n l z) r
section
variable {f:AH} {k:Nat} {rec:Ai->Int->List Int->Int->Option (Ai × Bool)}
theorem kidsP (hv:PV f k rec) {l:List Int} {z:Int} (hl:(l.length:Int)<=z) (hz:z+6000100*k<=400000000) (AE:List Int):∀ (AC:List Int) (K:Nat) (s:FS),AE.length<K->AC.length+AE.length<=3000000->WF f s->unF s<=k ->
 ∃ r,qD rec (AC++AE) l z K AC.length f.AF f.AI f.AB f.AD f.AG s.AY s.AU s.AP f.AF s.nd f.AD f.AG=some r/\OutP f (bX (aT false f k) s (AE.map fun c=>some (c,l,z))) r:=by
 induction AE with
 | nil=>
  intro AC K s hk _ hs hu;obtain _ | K:=K
  ·omega
  exact⟨.inl (tupP f s),by rw [qD,a1D (by simp)];rfl,rfl⟩
 | cons e AE ih=>
  intro AC K s hk hB hs hu;obtain _ | K:=K
  ·omega
  simp only [a0G]at hk hB;obtain⟨r,h1,h2⟩:=hv.run s e l z hs hu hl hz;rw [qD,a1E (bJ _ _ _),bP,bsm,show rec (⟨(⟨f.AF,f.AI,f.AB,f.AD,f.AG⟩:AH),s.AY,s.AU,s.AP,(⟨f.AF,s.nd,f.AD,f.AG⟩:AJ)⟩:Ai) e l z=_ from h1,bsm,a0N,bX];dsimp only
  cases hq:aT false f k s e l z with
  | none=>rw [hq]at h2;obtain⟨s',rfl⟩:=h2;exact⟨_,rfl,s',rfl⟩
  | some s1=>
   rw [hq]at h2;have h2:r=(cvP f s1,true):=h2;subst h2;have:=pV k _ _ _ _ _ hq;obtain⟨r,g1,g2⟩:=ih (AC++[e]) K s1 (by omega) (by simp;omega) (vX hq hs) (by omega)
   refine⟨r,?_,by rw [bsm];exact g2⟩
   rw [a1z,aQ (by omega),bsm,bR,bE];exact g1
theorem spotsP (hv:PV f k rec) {d:AN} {l:List Int} {z:Int} (hl:(l.length:Int)<=z) (hz:z+6000100*k<=400000000) (AE:List Ap):∀ (AC:List Ap) (K:Nat) (s:FS),d.AS=AC++AE->AE.length<K->AC.length+AE.length<=3000000->WF f s->unF s<=k ->
 ∃ r,pT rec d z l K AC.length f.AF f.AI f.AB f.AD f.AG s.AY s.AU s.AP f.AF s.nd f.AD f.AG=some r/\OutP f (bX (aT false f k) s (AE.map fun c=>some (c.AW,l,z))) r:=by
 induction AE with
 | nil=>
  intro AC K s hd hk _ hs hu;obtain _ | K:=K
  ·omega
  exact⟨.inl (tupP f s),by rw [pT,hd,a1D (by simp)];rfl,rfl⟩
 | cons e AE ih=>
  intro AC K s hd hk hB hs hu;obtain _ | K:=K
  ·omega
  simp only [a0G]at hk hB;obtain⟨r,h1,h2⟩:=hv.run s e.AW l z hs hu hl hz;rw [pT,hd,a1E (bJ _ _ _),bP,bsm,show rec (⟨(⟨f.AF,f.AI,f.AB,f.AD,f.AG⟩:AH),s.AY,s.AU,s.AP,(⟨f.AF,s.nd,f.AD,f.AG⟩:AJ)⟩:Ai) e.AW l z=_ from h1,bsm,a0N,bX];dsimp only
  cases hq:aT false f k s e.AW l z with
  | none=>rw [hq]at h2;obtain⟨s',rfl⟩:=h2;exact⟨_,rfl,s',rfl⟩
  | some s1=>
   rw [hq]at h2;have h2:r=(cvP f s1,true):=h2;subst h2;have:=pV k _ _ _ _ _ hq;obtain⟨r,g1,g2⟩:=ih (AC++[e]) K s1 (by rw [hd,bR]) (by omega) (by simp;omega) (vX hq hs) (by omega)
   refine⟨r,?_,by rw [bsm];exact g2⟩
   rw [a1z,aQ (by omega),bsm,bE];exact g1
theorem aDp (d:AN) (ins:List Int) (z:Int) (r:Ah):dU false d ins z r=(iC d.AT r.Ad).bind fun k=>some (r.AW,ins++upto z k.toNat,z+k):=by
 unfold dU;rw [a1E (by intro h;cases h)]
theorem rulesP (hv:PV f k rec) {AA:Nat} (hf:10000000<AA) {d:AN} {l:List Int} {z:Int} (hl:(l.length:Int)<=z) (hz:z+6000000+6000100*k<=400000000) (AE:List Ah):∀ (AC:List Ah) (K:Nat) (s:FS),d.AQ=AC++AE->AE.length<K->AC.length+AE.length<=3000000->(∀ r∈AE,r.Ad.length<=2000000)->WF f s->unF s<=k ->
 ∃ r,pZ AA rec d z l K AC.length f.AF f.AI f.AB f.AD f.AG s.AY s.AU s.AP f.AF s.nd f.AD f.AG=some r/\OutP f (bX (aT false f k) s (AE.map (dU false d l z))) r:=by
 induction AE with
 | nil=>
  intro AC K s hd hk _ _ hs hu;obtain _ | K:=K
  ·omega
  exact⟨.inl (tupP f s),by rw [pZ,hd,a1D (by simp)];rfl,rfl⟩
 | cons e AE ih=>
  intro AC K s hd hk hB hj hs hu;obtain _ | K:=K
  ·omega
  simp only [a0G]at hk hB;have hje:=hj e (.head _);rw [pZ,a1E (by rw [hd];exact bJ _ _ _),show idx d.AQ (AC.length:Int)=some e from by rw [hd];exact bP _ _ _,bsm,show qQ AA (⟨d.AT,d.AS,d.AQ⟩:AN) (⟨e.At,e.Ad,e.AW⟩:Ah)=_ from more_p (d:=d) (r:=e) (by omega) hje,bsm,a0N];cases hm:iC d.AT e.Ad with
  | none=>
   rw [show dU false d l z e=none from by rw [aDp,hm];rfl];exact⟨_,rfl,s,rfl⟩
  | some m=>
   have hml:=aCZ hm;rw [show dU false d l z e=some (e.AW,l++upto z m.toNat,z+m)from by rw [aDp,hm,bsm]];obtain⟨r,h1,h2⟩:=hv.run s e.AW (l++upto z m.toNat) (z+m) hs hu (by rw [a0F,kN];omega) (by omega)
   dsimp only
   rw [a1D (by omega),from_p (by omega) hml.1 (by omega) (by omega),bsm,aCD (by rw [kN];omega),bsm,aQ (by omega),bsm,show rec (⟨(⟨f.AF,f.AI,f.AB,f.AD,f.AG⟩:AH),s.AY,s.AU,s.AP,(⟨f.AF,s.nd,f.AD,f.AG⟩:AJ)⟩:Ai) e.AW (l++upto z m.toNat) (z+m)=_ from h1,bsm,bX];dsimp only
   cases hq:aT false f k s e.AW (l++upto z m.toNat) (z+m)with
   | none=>rw [hq]at h2;obtain⟨s',rfl⟩:=h2;exact⟨_,rfl,s',rfl⟩
   | some s1=>
    rw [hq]at h2;have h2:r=(cvP f s1,true):=h2;subst h2;have:=pV k _ _ _ _ _ hq;obtain⟨r,g1,g2⟩:=ih (AC++[e]) K s1 (by rw [hd,bR]) (by omega) (by simp;omega) (fun r hr=>hj r (.tail _ hr)) (vX hq hs) (by omega)
    refine⟨r,?_,by rw [bsm];exact g2⟩
    rw [a1z,aQ (by omega),bsm,bE];exact g1
end
theorem aGB {f:AH} {k AA:Nat} (hv:PV f k (eL AA)) (hf:10000000<AA) {l:List Int} {z:Int} (hl:(l.length:Int)<=z) (hz:z+6000100*k<=400000000) {ks:List Int} (hk:ks.length<=2000000) {s:FS} (hs:WF f s) (hu:unF s<=k):
 ∃ r,kW (AA+1) (cvP f s) ks l z=some r/\ResP f (bX (aT false f k) s (ks.map fun c=>some (c,l,z))) r:=by
 obtain⟨r,g1,g2⟩:=kidsP hv hl hz ks [] AA s (by omega) (by simp;omega) hs hu
 rw [kW,show qD (eL AA) ks l z AA 0 (cvP f s).AH.AF (cvP f s).AH.AI (cvP f s).AH.AB (cvP f s).AH.AD (cvP f s).AH.AG (cvP f s).AY (cvP f s).AU (cvP f s).AP (cvP f s).AO.AF (cvP f s).AO.AB (cvP f s).AO.AD (cvP f s).AO.AG=_ from g1,bsm]
 cases hq:bX (aT false f k) s (ks.map fun c=>some (c,l,z))with
 | none=>rw [hq]at g2;obtain⟨s',rfl⟩:=g2;exact⟨_,rfl,s',rfl⟩
 | some s'=>rw [hq]at g2;have g2:r= .inl (tupP f s'):=g2;subst g2;exact⟨_,rfl,rfl⟩
open Go.SX Go.SW Go.Dt
theorem aAa {x:Bool} {f:AH} {k:Nat} {ts:List (Option (Int × List Int × Int))} {s s':FS} (h:bX (aT x f k) s ts=some s') (w:WF f s) (u:unF s<=k):WF f s'/\unF s'<=k:=
 ⟨pC (R:=WF f) (by grind [vX]) ts s s' h w,a1l (uH (fun s n l z s' h=>by have:=pV k s n l z s' h;omega) ts s s' h) u⟩
theorem defP_S {f:AH} {k AA:Nat} (hm:SmF f) (hD:∀ d∈f.AD,d.AT.length<=30/\d.AS.length<=30) (hv1:PV f k (eL (AA+1))) (hv0:PV f k (eL AA)) (hf:10000000<AA) {s:FS} {n:Int} {l tk:List Int} {z:Int} {y:Ao}
 (hl:(l.length:Int)<=z) (ht:(tk.length:Int)<=z) (hz:z+6000100*(k+1)<=400000000) (hy:idx f.AB n=some y) (h4:y.Op=4) (htk:idx s.AU n=some tk) (hs:WF f s) (hu:unF s<=k):
 ∃ r,pL (AA+2) (cvP f s) n l z=some r/\ResP f (eS false f (aT false f k) s y l tk z) r:=by
 rw [pL,show idx (cvP f s).AH.AB n=some y from hy,bsm]
 unfold eS
 rw [a1E h4]
 by_cases c1:y.N<0
 ·rw [a1E c1,show idx f.AD y.N=none from by grind [idx]];exact⟨_,rfl,s,rfl⟩
 rw [a1D c1]
 by_cases c2:(f.AD.length:Int)<=y.N
 ·have:idx f.AD y.N=none:=by
   grind [idx]
  rw [a1E (show((cvP f s).AH.AD.length:Int)<=y.N from c2),this];exact⟨_,rfl,s,rfl⟩
 obtain⟨d,hd⟩:=eV (xs:=f.AD) (i:=y.N) (by omega) (by omega)
 obtain⟨d1,d2⟩:=hD d (eG hd)
 obtain⟨m1,m2,m3,m4⟩:=hm.Ab d (eG hd)
 have ho:bF d<=60:=by unfold bF;omega
 have hy2:=(hm.args y (eG hy)).2.1
 rw [a1D (show ¬ ((cvP f s).AH.AD.length:Int)<=y.N from c2),show idx (cvP f s).AH.AD y.N=some d from hd,bsm,show chk ((d.AT.length:Int)+(d.AS.length:Int))=some (bF d:Int)from by rw [aQ (by omega)];simp [bF],bsm,
  from_p (by omega) (by omega) (by omega) (by omega),bsm,a0n,kN,aQ (by omega),bsm,show idx (cvP f s).AU n=some tk from htk,bsm,aCD (by rw [kN];omega),bsm,hd,bsm,a1E (by intro h;cases h)]
 obtain⟨r1,g1,g2⟩:=rulesP hv1 (AA:=AA+1) (by omega) (d:=d) (l:=tk++upto z (bF d)) (z:=z+bF d) (by grind [upto]) (by omega) d.AQ [] (AA+1) s rfl (by omega) (by simp;omega) m4 hs hu
 rw [show pZ (AA+1) (eL (AA+1)) d (z+bF d) (tk++upto z (bF d)) (AA+1) 0 (cvP f s).AH.AF (cvP f s).AH.AI (cvP f s).AH.AB (cvP f s).AH.AD (cvP f s).AH.AG (cvP f s).AY (cvP f s).AU (cvP f s).AP (cvP f s).AO.AF (cvP f s).AO.AB (cvP f s).AO.AD (cvP f s).AO.AG=_ from g1,bsm]
 cases hq:bX (aT false f k) s (d.AQ.map (dU false d (tk++upto z (bF d)) (z+bF d)))with
 | none=>rw [hq]at g2;obtain⟨s',rfl⟩:=g2;exact⟨_,rfl,s',rfl⟩
 | some s1=>
  rw [hq]at g2;have g2:r1= .inl (tupP f s1):=g2;subst g2;obtain⟨w1,u1⟩:=aAa hq hs hu;rw [bsm];dsimp only [tupP];obtain⟨r2,q1,q2⟩:=spotsP hv1 (d:=d) (l:=tk++upto z (bF d)) (z:=z+bF d) (by grind [upto]) (by omega) d.AS [] (AA+1) s1 rfl (by omega) (by simp;omega) w1 u1
  rw [show pT (eL (AA+1)) d (z+bF d) (tk++upto z (bF d)) (AA+1) 0 f.AF f.AI f.AB f.AD f.AG s1.AY s1.AU s1.AP f.AF s1.nd f.AD f.AG=_ from q1,bsm];cases hq2:bX (aT false f k) s1 (d.AS.map fun p=>some (p.AW,tk++upto z (bF d),z+bF d))with
  | none=>rw [hq2]at q2;obtain⟨s',rfl⟩:=q2;exact⟨_,rfl,s',rfl⟩
  | some s2=>
   rw [hq2]at q2;have q2:r2= .inl (tupP f s2):=q2;subst q2;obtain⟨w2,u2⟩:=aAa hq2 w1 u1;rw [bsm];dsimp only [tupP];obtain⟨r3,p1,p2⟩:=aGB hv0 hf (l:=l++upto z (bF d)) (z:=z+bF d) (by grind [upto]) (by omega) hy2 w2 u2
   rw [aCD (by rw [kN];omega),bsm,show kW (AA+1) (⟨(⟨f.AF,f.AI,f.AB,f.AD,f.AG⟩:AH),s2.AY,s2.AU,s2.AP,(⟨f.AF,s2.nd,f.AD,f.AG⟩:AJ)⟩:Ai) y.AM (l++upto z (bF d)) (z+bF d)=_ from p1,bsm];exact⟨_,rfl,p2⟩
theorem argsP {f:AH} {AA:Nat} (hf:10000000<AA) {s:FS} {n:Int} {l tk:List Int} {y:Ao} (AE:List AV):∀ (AC acc:List AV) (K:Nat),y.AX=AC++AE->AE.length<K->AC.length+AE.length<=3000000->acc.length+AE.length<=3000000->(∀ e∈AE,nE e<=2000000) ->
 ∃ r,oD AA (cvP f s) n l y tk K AC.length acc=some r/\match opL l AE with | some a=>r= .inl (acc++a) | none=>∃ s',r= .inr (cvP f s',false):=by
 induction AE with
 | nil=>
  intro AC acc K hd hk _ _ _;obtain _ | K:=K
  ·omega
  exact⟨_,by rw [oD,hd,a1D (by simp)],by simp [opL]⟩
 | cons e AE ih=>
  intro AC acc K hd hk hB hA he;obtain _ | K:=K
  ·omega
  simp only [a0G]at hk hB hA;obtain⟨e',b,h1,h2⟩:=exp_p AA e l (by grind) (he e (.head _))
  rw [oD,a1E (by grind),show idx y.AX (AC.length:Int)=some e from by grind [idx],bsm,lQ,h1,bsm];cases b with
  | false=>
   rw [a1D (by simp)]at h2;refine⟨_,rfl,?_⟩;rw [opL,h2];exact⟨⟨s.AP.set n.toNat true,s.AY.set n.toNat l,s.AU.set n.toNat tk,s.nd⟩,rfl⟩
  | true=>
   rw [a1E rfl]at h2;obtain⟨r,g1,g2⟩:=ih (AC++[e]) (acc++[e']) K (by rw [hd,bR]) (by omega) (by simp;omega) (by simp;omega) (fun x hx=>he x (.tail _ hx))
   refine⟨r,?_,?_⟩
   ·rw [a1z,lQ,dM (by simp;omega),bsm,aQ (by omega),bsm,bE];exact g1
   grind [opL]
def aCH (AA:Nat) (a0:Ai) (a1:Int) (a2:List Int) (a3:Int) (y4:Ao) (y8 x1:List Int) (x3:Int) (y10:List Int):Option (Ai × Bool):=
 (oD AA a0 a1 a2 y4 y8 AA 0 []).bind fun o=>match o with
 | Sum.inr r=>some r
 | Sum.inl x5=>
 (idx a0.AO.AB a1).bind fun y15=>
 if y4.Op=4 then
  ((pL AA) (⟨(⟨a0.AH.AF,a0.AH.AI,a0.AH.AB,a0.AH.AD,a0.AH.AG⟩:AH),a0.AY.set a1.toNat a2,a0.AU.set a1.toNat y8,a0.AP.set a1.toNat true,(⟨a0.AO.AF,a0.AO.AB.set a1.toNat (⟨y4.Op,x3,x5,y10⟩:AZ),a0.AO.AD,a0.AO.AG⟩:AJ)⟩:Ai) a1 a2 a3).bind fun y16=>
  some ((⟨(⟨y16.1.AH.AF,y16.1.AH.AI,y16.1.AH.AB,y16.1.AH.AD,y16.1.AH.AG⟩:AH),y16.1.AY,y16.1.AU,y16.1.AP,(⟨y16.1.AO.AF,y16.1.AO.AB,y16.1.AO.AD,y16.1.AO.AG⟩:AJ)⟩:Ai),y16.2)
 else
  ((kW AA) (⟨(⟨a0.AH.AF,a0.AH.AI,a0.AH.AB,a0.AH.AD,a0.AH.AG⟩:AH),a0.AY.set a1.toNat a2,a0.AU.set a1.toNat y8,a0.AP.set a1.toNat true,(⟨a0.AO.AF,a0.AO.AB.set a1.toNat (⟨y4.Op,x3,x5,y10⟩:AZ),a0.AO.AD,a0.AO.AG⟩:AJ)⟩:Ai) y4.AM x1 a3).bind fun y17=>
  some ((⟨(⟨y17.1.AH.AF,y17.1.AH.AI,y17.1.AH.AB,y17.1.AH.AD,y17.1.AH.AG⟩:AH),y17.1.AY,y17.1.AU,y17.1.AP,(⟨y17.1.AO.AF,y17.1.AO.AB,y17.1.AO.AD,y17.1.AO.AG⟩:AJ)⟩:Ai),y17.2)
theorem aCg {α:Type} {xs:List α} {n:Int} {y v:α} (h:idx xs n=some y):idx (xs.set n.toNat v) n=some v:=by
 obtain⟨j,rfl,hj,hlt⟩:=kL h
 rw [a0n]
 grind [nZ]
theorem aGA {f:AH} {k AA:Nat} (hm:SmF f) (hD:∀ d∈f.AD,d.AT.length<=30/\d.AS.length<=30) (hv2:PV f k (eL (AA+1))) (hv0:PV f k (eL AA)) (hf:10000000<AA) {s:FS} {n:Int} {l tk:List Int} {z m:Int} {y:Ao}
 (hl:(l.length:Int)<=z) (ht:(tk.length:Int)<=z) (hz:z+6000100*(k+1)<=400000000) (hy:idx f.AB n=some y) (hs:WF f s) (hsn:idx s.AP n=some false) (hu:unF s<=k+1) (hI:opI y l tk=some m):
 ∃ r,aCH (AA+2) (cvP f s) n l z y tk (fQ y l tk) m y.AM=some r/\ResP f ((opN y l tk).bind fun w=>eS false f (aT false f k) (s.put n l tk w) y l tk z) r:=by
 obtain⟨a1,a2,a3⟩:=hm.args y (eG hy)
 obtain⟨r,g1,g2⟩:=argsP (f:=f) (s:=s) (n:=n) (l:=l) (tk:=tk) (y:=y) (AA:=AA+2) (by omega) y.AX [] [] (AA+2) rfl (by omega) (by simp;omega) (by simp;omega) a3
 simp only [a0J,a0m,a0X]at g1 g2
 unfold aCH
 rw [g1,bsm,opN,hI,bsm]
 cases ho:opL l y.AX with
 | none=>rw [ho]at g2;obtain⟨s',rfl⟩:=g2;exact⟨_,rfl,s',rfl⟩
 | some a=>
  rw [ho]at g2;dsimp only at g2
  subst g2;have hin:=rA hy;obtain⟨w0,hw0⟩:=eV (xs:=s.nd) (i:=n) hin.1 (by rw [hs.nd];exact hin.2)
  obtain⟨t0,ht0⟩:=eV (xs:=s.AU) (i:=n) hin.1 (by rw [hs.AU];exact hin.2)
  have hp:=aDk (l:=l) (t:=tk) (z:=(⟨y.Op,m,a,y.AM⟩:AZ)) hsn;rw [bsm,bsm];dsimp only
  rw [show idx (cvP f s).AO.AB n=some w0 from hw0,bsm];by_cases h4:y.Op=4
  ·obtain⟨r,q1,q2⟩:=defP_S hm hD hv2 hv0 hf (s:=s.put n l tk ⟨y.Op,m,a,y.AM⟩) (n:=n) (l:=l) (tk:=tk) hl ht hz hy h4 (aCg ht0) hs.put (by omega)
   rw [a1E h4,show pL (AA+2) (⟨(⟨(cvP f s).AH.AF,(cvP f s).AH.AI,(cvP f s).AH.AB,(cvP f s).AH.AD,(cvP f s).AH.AG⟩:AH),(cvP f s).AY.set n.toNat l,(cvP f s).AU.set n.toNat tk,(cvP f s).AP.set n.toNat true,(⟨(cvP f s).AO.AF,(cvP f s).AO.AB.set n.toNat (⟨y.Op,m,a,y.AM⟩:AZ),(cvP f s).AO.AD,(cvP f s).AO.AG⟩:AJ)⟩:Ai) n l z=_ from q1,bsm];exact⟨_,rfl,q2⟩
  ·have hw:(fQ y l tk).length<=z:=by grind [fQ]
   obtain⟨r,q1,q2⟩:=aGB hv2 (by omega) (l:=fQ y l tk) (z:=z) hw (by omega) a2 (s:=s.put n l tk ⟨y.Op,m,a,y.AM⟩) hs.put (by omega)
   rw [a1D h4,show kW (AA+2) (⟨(⟨(cvP f s).AH.AF,(cvP f s).AH.AI,(cvP f s).AH.AB,(cvP f s).AH.AD,(cvP f s).AH.AG⟩:AH),(cvP f s).AY.set n.toNat l,(cvP f s).AU.set n.toNat tk,(cvP f s).AP.set n.toNat true,(⟨(cvP f s).AO.AF,(cvP f s).AO.AB.set n.toNat (⟨y.Op,m,a,y.AM⟩:AZ),(cvP f s).AO.AD,(cvP f s).AO.AG⟩:AJ)⟩:Ai) y.AM (fQ y l tk) z=_ from q1,bsm]
   grind [eS]
theorem pnode {f:AH} {k AA:Nat} (hm:SmF f) (hD:∀ d∈f.AD,d.AT.length<=30/\d.AS.length<=30) (hv2:PV f k (eL (AA+1))) (hv0:PV f k (eL AA)) (hf:10000000<AA):PV f (k+1) (eL (AA+3)):=by
 refine⟨fun s n l z hs hu hl hz=>?_⟩
 rw [eL]
 by_cases c1:n<0
 ·rw [a1E c1,aT,a1D (by omega)];exact⟨_,rfl,s,rfl⟩
 rw [a1D c1]
 by_cases c2:(f.AB.length:Int)<=n
 ·rw [a1E (show((cvP f s).AH.AB.length:Int)<=n from c2),aT,a1D (by omega)];exact⟨_,rfl,s,rfl⟩
 rw [a1D (show ¬ ((cvP f s).AH.AB.length:Int)<=n from c2)]
 obtain⟨q,hq⟩:=eV (xs:=s.AP) (i:=n) (by omega) (by rw [hs.AP];omega)
 obtain⟨l0,hl0⟩:=eV (xs:=s.AY) (i:=n) (by omega) (by rw [hs.AY];omega)
 obtain⟨t0,ht0⟩:=eV (xs:=s.AU) (i:=n) (by omega) (by rw [hs.AU];omega)
 obtain⟨y,hy⟩:=eV (xs:=f.AB) (i:=n) (by omega) (by omega)
 rw [show idx (cvP f s).AP n=some q from hq,bsm]
 cases q with
 | true=>
  rw [a1z,aT,a1D (by grind)];exact⟨_,rfl,s,rfl⟩
 | false=>
  have hfv:iQ false y l->aT false f (k+1) s n l z=(opN y l (pick l y.AI)).bind fun w=>eS false f (aT false f k) (s.put n l (pick l y.AI) w) y l (pick l y.AI) z:=by grind [aT]
  have hfn:¬ iQ false y l->aT false f (k+1) s n l z=none:=by grind [aT]
  have hT:=hm.takes y (eG hy);obtain⟨a1,a2,a3⟩:=hm.args y (eG hy);rw [a1y,bsm,show idx (cvP f s).AY n=some l0 from hl0,bsm,show idx (cvP f s).AH.AB n=some y from hy,bsm,aCv,bsm,aDR (l:=y.AI) (b:=l.length) (by omega) (by omega)];by_cases hr:dV l.length none y.AI=true
  ·have fin:(fN y.Op=true\/y.AI=[])->∃ r,((sL (AA+2) l y.AI).bind fun y8=>
    (idx (cvP f s).AU n).bind fun y9=>
    (jR y.AM).bind fun y10=>
    ((if y.Op=6 then
      some (decide (y.Op=6))
    else
     some (decide (y.Op=8))).bind fun x2=>
    bif x2 then
     (idx ((cvP f s).AU.set n.toNat y8) n).bind fun y11=>
     some y11
    else
     some l).bind fun x1=>
    ((if y.Op=2 then
      some (decide (y.Op=2))
    else
     if y.Op=6 then
      some (decide (y.Op=6))
     else
      some (decide (y.Op=8))).bind fun x4=>
    bif x4 then
     if y.N<0 then
      (some ((⟨(⟨(cvP f s).AH.AF,(cvP f s).AH.AI,(cvP f s).AH.AB,(cvP f s).AH.AD,(cvP f s).AH.AG⟩:AH),(cvP f s).AY.set n.toNat l,(cvP f s).AU.set n.toNat y8,(cvP f s).AP.set n.toNat true,(⟨(cvP f s).AO.AF,(cvP f s).AO.AB,(cvP f s).AO.AD,(cvP f s).AO.AG⟩:AJ)⟩:Ai),false)).bind fun r=>some (Sum.inr r)
     else
      if (x1.length:Int)<=y.N then
       (some ((⟨(⟨(cvP f s).AH.AF,(cvP f s).AH.AI,(cvP f s).AH.AB,(cvP f s).AH.AD,(cvP f s).AH.AG⟩:AH),(cvP f s).AY.set n.toNat l,(cvP f s).AU.set n.toNat y8,(cvP f s).AP.set n.toNat true,(⟨(cvP f s).AO.AF,(cvP f s).AO.AB,(cvP f s).AO.AD,(cvP f s).AO.AG⟩:AJ)⟩:Ai),false)).bind fun r=>some (Sum.inr r)
      else
       (idx x1 y.N).bind fun y12=>
       some (Sum.inl y12)
    else
     some (Sum.inl y.N)).bind fun o=>match o with
    | Sum.inr r=>some r
    | Sum.inl x3=>aCH (AA+2) (cvP f s) n l z y y8 x1 x3 y10)=some r/\ResP f (aT false f (k+1) s n l z) r:=fun hk=>by
    rw [hfv ⟨⟨hk,hr⟩,fun h=>by cases h⟩]
    have hpl:(pick l y.AI).length<=l.length:=by
     rw [aAU];have:=xB (b:=l.length) (by omega) hr;omega
    rw [pick_p (by omega) (by omega) (zT hr),bsm,show idx (cvP f s).AU n=some t0 from ht0,bsm,jR,a0X,dM (by omega),bsm,bsm,
     show(if y.Op=6 then some (decide (y.Op=6)) else some (decide (y.Op=8)):Option Bool)=some (decide (y.Op=6\/y.Op=8))from by
      grind,bsm,
     show(bif decide (y.Op=6\/y.Op=8)then(idx ((cvP f s).AU.set n.toNat (pick l y.AI)) n).bind fun y11=>some y11 else some l:Option (List Int))=some (fQ y l (pick l y.AI))from by
      unfold fQ;by_cases h6:y.Op=6\/y.Op=8
      ·rw [a1B h6,a1z,a1E h6,show idx ((cvP f s).AU.set n.toNat (pick l y.AI)) n=some (pick l y.AI)from aCg ht0,bsm]
      grind,bsm,
     show(if y.Op=2 then some (decide (y.Op=2)) else some (decide (y.Op=6\/y.Op=8)):Option Bool)=some (decide (y.Op=2\/y.Op=6\/y.Op=8))from by
      grind,bsm]
    by_cases hx:y.Op=2\/y.Op=6\/y.Op=8
    ·have hI:opI y l (pick l y.AI)=idx (fQ y l (pick l y.AI)) y.N:=by
      unfold opI fQ
      grind
     rw [a1B hx,a1z];by_cases e1:y.N<0
     ·rw [a1E e1,opN,hI,show idx (fQ y l (pick l y.AI)) y.N=none from by grind [idx]];exact⟨_,rfl,⟨s.AP.set n.toNat true,s.AY.set n.toNat l,s.AU.set n.toNat (pick l y.AI),s.nd⟩,rfl⟩
     ·rw [a1D e1];by_cases e2:((fQ y l (pick l y.AI)).length:Int)<=y.N
      ·have:idx (fQ y l (pick l y.AI)) y.N=none:=by
        grind [idx]
       rw [a1E e2,opN,hI,this];exact⟨_,rfl,⟨s.AP.set n.toNat true,s.AY.set n.toNat l,s.AU.set n.toNat (pick l y.AI),s.nd⟩,rfl⟩
      ·obtain⟨m,hmm⟩:=eV (xs:=fQ y l (pick l y.AI)) (i:=y.N) (by omega) (by omega)
       rw [a1D e2,hmm,bsm,bsm];exact aGA hm hD hv2 hv0 hf hl (by omega) (by omega) hy hs hq hu (by rw [hI,hmm])
    ·rw [a1A hx,a1y,bsm];exact aGA hm hD hv2 hv0 hf hl (by omega) (by omega) hy hs hq hu (by grind [opI])
   cases ht:fN y.Op with
   | false=>
    rw [a0j,a1z];by_cases hk:y.AI=[]
    ·rw [a1D (by rw [hk];simp),hr,bsm,a1z,bsm];exact fin (.inr hk)
    ·have hno:¬ iQ false y l:=fun h=>by
      rcases h.1.1 with h | h
      ·rw [ht]at h;cases h
      ·exact hk h
     rw [a1E (by have:=List.length_pos_iff.2 hk;omega),hfn hno];exact⟨_,rfl,⟨s.AP.set n.toNat true,s.AY.set n.toNat l,s.AU,s.nd⟩,rfl⟩
   | true=>
    rw [a0k,a1y,hr,bsm,a1z,bsm];exact fin (.inl ht)
  ·have hrf:dV l.length none y.AI=false:=Bool.eq_false_iff.2 hr;rw [hfn (fun h=>hr h.1.2)];cases ht:fN y.Op with
   | false=>
    rw [a0j,a1z];by_cases hk:y.AI=[]
    ·rw [a1D (by rw [hk];simp),hrf,bsm,a1y];exact⟨_,rfl,⟨s.AP.set n.toNat true,s.AY.set n.toNat l,s.AU,s.nd⟩,rfl⟩
    ·rw [a1E (by have:=List.length_pos_iff.2 hk;omega)];exact⟨_,rfl,⟨s.AP.set n.toNat true,s.AY.set n.toNat l,s.AU,s.nd⟩,rfl⟩
   | true=>
    rw [a0k,a1y,hrf,bsm,a1y];exact⟨_,rfl,⟨s.AP.set n.toNat true,s.AY.set n.toNat l,s.AU,s.nd⟩,rfl⟩
theorem pnode0 {f:AH} {AA:Nat}:PV f 0 (eL (AA+1)):=by
 refine⟨fun s n l z hs hu hl hz=>?_⟩
 rw [eL,aT]
 by_cases c1:n<0
 ·rw [a1E c1];exact⟨_,rfl,s,rfl⟩
 rw [a1D c1]
 by_cases c2:(f.AB.length:Int)<=n
 ·rw [a1E (show((cvP f s).AH.AB.length:Int)<=n from c2)];exact⟨_,rfl,s,rfl⟩
 rw [a1D (show ¬ ((cvP f s).AH.AB.length:Int)<=n from c2)]
 obtain⟨q,hq⟩:=eV (xs:=s.AP) (i:=n) (by omega) (by rw [hs.AP];omega)
 rw [show idx (cvP f s).AP n=some q from hq,bsm]
 cases q with
 | true=>exact⟨_,rfl,s,rfl⟩
 | false=>have:=aG2 hq;omega
theorem pvisF {f:AH} (hm:SmF f) (hD:∀ d∈f.AD,d.AT.length<=30/\d.AS.length<=30):∀ (k AA:Nat),10000000+3*k<AA->PV f k (eL AA)
 | 0,AA+1,_=>pnode0
 | k+1,AA+3,h=>pnode hm hD (pvisF hm hD k (AA+1) (by omega)) (pvisF hm hD k AA (by omega)) (by omega)
open Go.SX Go.SW Go.Dt
def FS.nds (s:FS) (n:Int) (w:AZ):FS:=⟨s.AP,s.AY,s.AU,s.nd.set n.toNat w⟩
def FS.As (s:FS) (n:Int) (l t:List Int):FS:=⟨s.AP.set n.toNat true,s.AY.set n.toNat l,s.AU.set n.toNat t,s.nd⟩
theorem put_nds {s:FS} {n:Int} {l t:List Int} {w:AZ}:s.put n l t w=(s.As n l t).nds n w:=rfl
theorem WF.nds {f:AH} {s:FS} {n:Int} {w:AZ} (h:WF f s):WF f (s.nds n w):=⟨h.AP,h.AY,h.AU,by simp [FS.nds,h.nd]⟩
theorem WF.As {f:AH} {s:FS} {n:Int} {l t:List Int} (h:WF f s):WF f (s.As n l t):=⟨by simp [FS.As,h.AP],by simp [FS.As,h.AY],by simp [FS.As,h.AU],h.nd⟩
theorem aEU {s:FS} {n m:Int} {l t:List Int} {z:AZ} (h:idx s.AP n=some true):idx (s.put m l t z).AP n=some true:=by
 obtain⟨j,rfl,hj,hlt⟩:=kL h
 grind [FS.put,idx]
theorem aFT {x:Bool} {f:AH} {k:Nat} {s s':FS} {n m:Int} {l:List Int} {z:Int} (h:aT x f k s m l z=some s') (h0:idx s.AP n=some true):idx s'.AP n=some true:=
 qZ (R:=fun s=>idx s.AP n=some true) (by grind [aEU]) k s m l z s' h h0
theorem aIb {s:FS} {n m:Int} {l t:List Int} {w z:AZ} (h:n.toNat≠m.toNat):(s.nds n w).put m l t z=(s.put m l t z).nds n w:=by
 simp only [FS.put,FS.nds]
 rw [List.set_comm _ _ h]
theorem sY {g:FS->Int->List Int->Int->Option FS} {n:Int} {w:AZ} (H:∀ s m l z,idx s.AP n=some true->g (s.nds n w) m l z=(g s m l z).bind fun s=>some (s.nds n w)) (K:∀ s m l z s',g s m l z=some s'->idx s.AP n=some true->idx s'.AP n=some true):
 ∀ (ts:List (Option (Int × List Int × Int))) (s:FS),idx s.AP n=some true->bX g (s.nds n w) ts=(bX g s ts).bind fun s=>some (s.nds n w)
 | [],s,_=>rfl
 | none :: ts,s,_=>rfl
 | some t :: ts,s,h=>by
  rw [bX,bX,H _ _ _ _ h];cases hq:g s t.1 t.2.1 t.2.2 with
  | none=>rfl
  | some s1=>rw [bsm,bsm,bsm];exact sY H K ts s1 (K _ _ _ _ _ hq h)
theorem aFe {x:Bool} {f:AH} {n:Int} {w:AZ} (hn:0<=n):∀ (k:Nat) (s:FS) (m:Int) (l:List Int) (z:Int),idx s.AP n=some true->aT x f k (s.nds n w) m l z=(aT x f k s m l z).bind fun s=>some (s.nds n w)
 | 0,_,_,_,_,_=>rfl
 | k+1,s,m,l,z,h=>by
  rw [aT,aT,show(s.nds n w).AP=s.AP from rfl];split
  ·rename_i hc;have hne:n.toNat≠m.toNat:=by grind
   cases ey:idx f.AB m with
   | none=>rfl
   | some y=>
    rw [bsm,bsm];split
    ·cases ew:opN y l (pick l y.AI)with
     | none=>rfl
     | some u=>
      rw [bsm,bsm,aIb hne];have h1:=aEU (m:=m) (l:=l) (t:=pick l y.AI) (z:=u) h;have H:=aFe (x:=x) (f:=f) (w:=w) hn k;have K:∀ s m l z s',aT x f k s m l z=some s'->idx s.AP n=some true->idx s'.AP n=some true:=by grind [aFT]
      have KV:∀ ts s s',bX (aT x f k) s ts=some s'->idx s.AP n=some true->idx s'.AP n=some true:=fun ts s s' h h0=>pC (R:=fun s=>idx s.AP n=some true) (by omega) ts s s' h h0
      unfold eS;split
      ·cases ed:idx f.AD y.N with
       | none=>rfl
       | some d=>
        rw [bsm,bsm];split
        ·rw [sY H K _ _ h1];cases q1:bX (aT x f k) (s.put m l (pick l y.AI) u) (d.AQ.map (dU x d (pick l y.AI++upto z (bF d)) (z+bF d)))with
         | none=>rfl
         | some s1=>
          have h2:=KV _ _ _ q1 h1;rw [bsm,bsm,bsm,sY H K _ _ h2];cases q2:bX (aT x f k) s1 (d.AS.map fun p=>some (p.AW,pick l y.AI++upto z (bF d),z+bF d))with
          | none=>rfl
          | some s2=>
           grind [sY]
        ·rfl
      ·exact sY H K _ _ h1
    ·rfl
  ·rfl
def cvR (f:AH) (s:FS) (sz:List Int) (b:Bool):Ag:=⟨f,s.AP,s.AY,sz,s.AU,⟨f.AF,s.nd,[],f.AG⟩,b⟩
def OkR (o:Option FS) (s:FS) (b:Bool):Prop:=match o with
 | some t=>s=t/\b=false
 | none=>b=true
theorem gJ {s:FS} {b:Bool} (h:b=true):OkR none s b:=h
abbrev TupR:=List ByteArray × List Int × List Ao × List AN × Int × List Bool × List (List Int) × List Int × List (List Int) × List ByteArray × List AZ × List AN × Int × Bool
def tupR (f:AH) (s:FS) (sz:List Int) (b:Bool):TupR:=(f.AF,f.AI,f.AB,f.AD,f.AG,s.AP,s.AY,sz,s.AU,f.AF,s.nd,[],f.AG,b)
structure RV (f:AH) (k:Nat) (rec:Ag->Int->List Int->Int->Option Ag):Prop where
 run:∀ (s:FS) (sz:List Int) (n:Int) (l:List Int) (z:Int),WF f s->sz.length=f.AB.length->unF s<=k->(l.length:Int)<=z->z+6000100*k<=400000000 ->
  ∃ s' sz' b,rec (cvR f s sz false) n l z=some (cvR f s' sz' b)/\WF f s'/\sz'.length=f.AB.length/\OkR (aT true f k s n l z) s' b
section
variable {f:AH} {k:Nat} {rec:Ag->Int->List Int->Int->Option Ag}
theorem kidsR (hv:RV f k rec) {y:Ao} {l:List Int} {z:Int} (hl:(l.length:Int)<=z) (hz:z+6000100*k<=400000000) (AE:List Int):∀ (AC:List Int) (K:Nat) (s:FS) (sz:List Int) (b:Bool),y.AM=AC++AE->AE.length<K->AC.length+AE.length<=3000000->WF f s->sz.length=f.AB.length->unF s<=k ->
 ∃ s' sz' b',iK rec y z l K AC.length f.AF f.AI f.AB f.AD f.AG s.AP s.AY sz s.AU f.AF s.nd [] f.AG b=some (cvR f s' sz' b')/\WF f s'/\sz'.length=f.AB.length/\OkR (if b=true then none else bX (aT true f k) s (AE.map fun c=>some (c,l,z))) s' b':=by
 induction AE with
 | nil=>
  intro AC K s sz b hd hk _ hs hsz hu;obtain _ | K:=K
  ·omega
  refine⟨s,sz,b,by rw [iK,hd,a1D (by simp)];rfl,hs,hsz,?_⟩
  cases b with
  | true=>exact gJ rfl
  | false=>exact⟨rfl,rfl⟩
 | cons e AE ih=>
  intro AC K s sz b hd hk hB hs hsz hu;obtain _ | K:=K
  ·omega
  simp only [a0G]at hk hB;rw [iK,a1E (by rw [hd];exact bJ _ _ _)];cases b with
  | true=>exact⟨s,sz,true,rfl,hs,hsz,gJ rfl⟩
  | false=>
   obtain⟨s1,sz1,b1,h1,h2,h3,h4⟩:=hv.run s sz e l z hs hsz hu hl hz;rw [a1y,show idx y.AM (AC.length:Int)=some e from by rw [hd];exact bP _ _ _,bsm,show rec (⟨(⟨f.AF,f.AI,f.AB,f.AD,f.AG⟩:AH),s.AP,s.AY,sz,s.AU,(⟨f.AF,s.nd,[],f.AG⟩:AJ),false⟩:Ag) e l z=_ from h1,bsm,aQ (by omega),bsm,bE];have hu1:b1=false->unF s1<=k:=fun hb=>by
    cases hq:aT true f k s e l z with
    | none=>rw [hq]at h4;have h4:b1=true:=h4;rw [hb]at h4;cases h4
    | some t=>rw [hq]at h4;have:=pV k _ _ _ _ _ hq;rw [h4.1];omega
   cases b1 with
   | true=>
    have hq:aT true f k s e l z=none:=by
     cases hq:aT true f k s e l z with
     | none=>rfl
     | some t=>rw [hq]at h4;cases h4.2
    refine⟨s1,sz1,true,?_,h2,h3,?_⟩
    ·obtain _ | K:=K
     ·omega
     dsimp only [cvR];rw [iK];split <;> rfl
    ·rw [a1D (by simp),a0N,bX,hq];exact gJ rfl
   | false=>
    obtain⟨t,ht⟩:∃ t,aT true f k s e l z=some t:=by
     cases hq:aT true f k s e l z with
     | none=>rw [hq]at h4;cases h4
     | some t=>exact⟨t,rfl⟩
    rw [ht]at h4;have e1:=h4.1;subst e1;obtain⟨s2,sz2,b2,g1,g2,g3,g4⟩:=ih (AC++[e]) K s1 sz1 false (by rw [hd,bR]) (by omega) (by simp;omega) h2 h3 (hu1 rfl)
    refine⟨s2,sz2,b2,g1,g2,g3,?_⟩;rw [a1D (by simp)]at g4 ⊢;rw [a0N,bX,ht,bsm];exact g4
theorem spotsR (hv:RV f k rec) {d:AN} {l:List Int} {z:Int} {m:Int} (hm:0<=m) (hz0:0<=z) (hl:(l.length:Int)<=z+m) (hz:z+m+6000100*k<=400000000) (AE:List Ap):∀ (AC:List Ap) (K:Nat) (s:FS) (sz:List Int) (b:Bool),d.AS=AC++AE->AE.length<K->AC.length+AE.length<=3000000->WF f s->sz.length=f.AB.length->unF s<=k ->
 ∃ s' sz' b',lI rec d z m l K AC.length f.AF f.AI f.AB f.AD f.AG s.AP s.AY sz s.AU f.AF s.nd [] f.AG b=some (tupR f s' sz' b')/\WF f s'/\sz'.length=f.AB.length/\OkR (if b=true then none else bX (aT true f k) s (AE.map fun c=>some (c.AW,l,z+m))) s' b':=by
 induction AE with
 | nil=>
  intro AC K s sz b hd hk _ hs hsz hu;obtain _ | K:=K
  ·omega
  refine⟨s,sz,b,by rw [lI,hd,a1D (by simp)];rfl,hs,hsz,?_⟩
  cases b with
  | true=>exact gJ rfl
  | false=>exact⟨rfl,rfl⟩
 | cons e AE ih=>
  intro AC K s sz b hd hk hB hs hsz hu;obtain _ | K:=K
  ·omega
  simp only [a0G]at hk hB;rw [lI,a1E (by rw [hd];exact bJ _ _ _)];cases b with
  | true=>exact⟨s,sz,true,rfl,hs,hsz,gJ rfl⟩
  | false=>
   obtain⟨s1,sz1,b1,h1,h2,h3,h4⟩:=hv.run s sz e.AW l (z+m) hs hsz hu hl hz;rw [a1y,show idx d.AS (AC.length:Int)=some e from by rw [hd];exact bP _ _ _,bsm,aQ (by omega),bsm,show rec (⟨(⟨f.AF,f.AI,f.AB,f.AD,f.AG⟩:AH),s.AP,s.AY,sz,s.AU,(⟨f.AF,s.nd,[],f.AG⟩:AJ),false⟩:Ag) e.AW l (z+m)=_ from h1,bsm,aQ (by omega),bsm,bE];have hu1:b1=false->unF s1<=k:=fun hb=>by
    cases hq:aT true f k s e.AW l (z+m)with
    | none=>rw [hq]at h4;have h4:b1=true:=h4;rw [hb]at h4;cases h4
    | some t=>rw [hq]at h4;have:=pV k _ _ _ _ _ hq;rw [h4.1];omega
   cases b1 with
   | true=>
    have hq:aT true f k s e.AW l (z+m)=none:=by
     cases hq:aT true f k s e.AW l (z+m)with
     | none=>rfl
     | some t=>rw [hq]at h4;cases h4.2
    refine⟨s1,sz1,true,?_,h2,h3,?_⟩
    ·obtain _ | K:=K
     ·omega
     dsimp only [cvR];rw [lI];split <;> rfl
    ·rw [a1D (by simp),a0N,bX,hq];exact gJ rfl
   | false=>
    obtain⟨t,ht⟩:∃ t,aT true f k s e.AW l (z+m)=some t:=by
     cases hq:aT true f k s e.AW l (z+m)with
     | none=>rw [hq]at h4;cases h4
     | some t=>exact⟨t,rfl⟩
    rw [ht]at h4;have e1:=h4.1;subst e1;obtain⟨s2,sz2,b2,g1,g2,g3,g4⟩:=ih (AC++[e]) K s1 sz1 false (by rw [hd,bR]) (by omega) (by simp;omega) h2 h3 (hu1 rfl)
    refine⟨s2,sz2,b2,g1,g2,g3,?_⟩;rw [a1D (by simp)]at g4 ⊢;rw [a0N,bX,ht,bsm];exact g4
theorem aCX (d:AN) (ins:List Int) (z:Int) (r:Ah):dU true d ins z r=if r.Ad.length<=3 then(iC d.AT r.Ad).bind fun k=>some (r.AW,ins++upto z k.toNat,z+k) else none:=by
 grind [dU]
theorem rulesR (hv:RV f k rec) {AA:Nat} (hf:10000000<AA) {d:AN} {l:List Int} {z m:Int} (hm:0<=m) (hz0:0<=z) (hl:(l.length:Int)<=z+m) (hz:z+m+9+6000100*k<=400000000) (AE:List Ah):∀ (AC:List Ah) (K:Nat) (s:FS) (sz:List Int),d.AQ=AC++AE->AE.length<K->AC.length+AE.length<=3000000->(∀ r∈AE,r.Ad.length<=2000000)->WF f s->sz.length=f.AB.length->unF s<=k ->
 ∃ s' sz' b r,nA AA rec d z m l K AC.length f.AF f.AI f.AB f.AD f.AG s.AP s.AY sz s.AU f.AF s.nd [] f.AG false=some r/\(r= .inl (tupR f s' sz' b)\/b=true/\r= .inr (cvR f s' sz' true,m))/\WF f s'/\sz'.length=f.AB.length/\OkR (bX (aT true f k) s (AE.map (dU true d l (z+m)))) s' b:=by
 induction AE with
 | nil=>
  intro AC K s sz hd hk _ _ hs hsz hu;obtain _ | K:=K
  ·omega
  exact⟨s,sz,false, .inl (tupR f s sz false),by rw [nA,hd,a1D (by simp)];rfl, .inl rfl,hs,hsz,rfl,rfl⟩
 | cons e AE ih=>
  intro AC K s sz hd hk hB hj hs hsz hu;obtain _ | K:=K
  ·omega
  simp only [a0G]at hk hB;have hje:=hj e (.head _);have hi:idx d.AQ (AC.length:Int)=some e:=by rw [hd];exact bP _ _ _
  rw [nA,a1E (by rw [hd];exact bJ _ _ _),a1y,hi,bsm,show uD AA (⟨d.AT,d.AS,d.AQ⟩:AN) e=_ from bring_r (d:=d) (r:=e) (by omega) hje,bsm,a0N];have bad:dU true d l (z+m) e=none->∀ r:TupR ⊕ (Ag × Int),r= .inr (cvR f s sz true,m)->∃ (s':FS) (sz':List Int) (b:Bool) (r':TupR ⊕ (Ag × Int)),some r=some r'/\(r'= .inl (tupR f s' sz' b)\/b=true/\r'= .inr (cvR f s' sz' true,m))/\WF f s'/\sz'.length=f.AB.length/\OkR (bX (aT true f k) s (dU true d l (z+m) e :: AE.map (dU true d l (z+m)))) s' b:=fun h r hr=>by
   rw [h];exact⟨s,sz,true,r,rfl, .inr ⟨rfl,hr⟩,hs,hsz,gJ rfl⟩
  by_cases hJ:e.Ad.length<=3
  ·rw [a1E hJ];cases hm2:iC d.AT e.Ad with
   | none=>exact bad (by rw [aCX,a1E hJ,hm2];rfl) _ rfl
   | some c=>
    have hml:=aCZ hm2;rw [show dU true d l (z+m) e=some (e.AW,l++upto (z+m) c.toNat,z+m+c)from by rw [aCX,a1E hJ,hm2,bsm]];obtain⟨s1,sz1,b1,h1,h2,h3,h4⟩:=hv.run s sz e.AW (l++upto (z+m) c.toNat) (z+m+c) hs hsz hu (by rw [a0F,kN];omega) (by omega)
    dsimp only
    rw [a1D (by omega),bsm,aQ (by omega),bsm,aDc (by omega) hml.1 (by omega) (by omega),bsm,bsm,aQ (by omega),bsm,show rec (⟨(⟨f.AF,f.AI,f.AB,f.AD,f.AG⟩:AH),s.AP,s.AY,sz,s.AU,(⟨f.AF,s.nd,[],f.AG⟩:AJ),false⟩:Ag) e.AW (l++upto (z+m) c.toNat) (z+m+c)=_ from h1,bsm,aQ (by omega),bsm,bE];have hu1:b1=false->unF s1<=k:=fun hb=>by
     cases hq:aT true f k s e.AW (l++upto (z+m) c.toNat) (z+m+c)with
     | none=>rw [hq]at h4;have h4:b1=true:=h4;rw [hb]at h4;cases h4
     | some t=>rw [hq]at h4;have:=pV k _ _ _ _ _ hq;rw [h4.1];omega
    cases b1 with
    | true=>
     have hq:aT true f k s e.AW (l++upto (z+m) c.toNat) (z+m+c)=none:=by
      cases hq:aT true f k s e.AW (l++upto (z+m) c.toNat) (z+m+c)with
      | none=>rfl
      | some t=>rw [hq]at h4;cases h4.2
     refine⟨s1,sz1,true, .inl (tupR f s1 sz1 true),?_, .inl rfl,h2,h3,?_⟩
     ·obtain _ | K:=K
      ·omega
      dsimp only [cvR];rw [nA];split <;> rfl
     ·rw [bX];dsimp only;rw [hq];exact gJ rfl
    | false=>
     obtain⟨t,ht⟩:∃ t,aT true f k s e.AW (l++upto (z+m) c.toNat) (z+m+c)=some t:=by
      cases hq:aT true f k s e.AW (l++upto (z+m) c.toNat) (z+m+c)with
      | none=>rw [hq]at h4;cases h4
      | some t=>exact⟨t,rfl⟩
     rw [ht]at h4;have e1:=h4.1;subst e1;obtain⟨s2,sz2,b2,r,g0,g1,g2,g3,g4⟩:=ih (AC++[e]) K s1 sz1 (by rw [hd,bR]) (by omega) (by simp;omega) (fun r hr=>hj r (.tail _ hr)) h2 h3 (hu1 rfl)
     refine⟨s2,sz2,b2,r,g0,g1,g2,g3,?_⟩;rw [bX];dsimp only;rw [ht,bsm];exact g4
  ·rw [a1D hJ];exact bad (by rw [aCX,a1D hJ]) _ rfl
end
open Go.SX Go.SW Go.Dt
def aCW (AA:Nat) (a0:Ag) (a1:Int) (a2:List Int) (a3:Int) (y5:Ao) (y7:List Int) (x2:List AV) (z1:List Int):Option Ag:=
 (if y5.Op=2 then
  (if y5.N<0 then
   some true
  else
   some (decide ((a2.length:Int)<=y5.N))).bind fun x24=>
  bif x24 then
   some (a3,a2,a0.f.AF,a0.f.AI,a0.f.AB,a0.f.AD,a0.f.AG,a0.AP.set a1.toNat true,a0.AY.set a1.toNat a2,a0.Aa.set a1.toNat a3,a0.AU.set a1.toNat y7,a0.p.AF,a0.p.AB,a0.p.AD,a0.p.AG,x24,y5.N)
  else
   (idx a2 y5.N).bind fun y13=>
   some (a3,a2,a0.f.AF,a0.f.AI,a0.f.AB,a0.f.AD,a0.f.AG,a0.AP.set a1.toNat true,a0.AY.set a1.toNat a2,a0.Aa.set a1.toNat a3,a0.AU.set a1.toNat y7,a0.p.AF,a0.p.AB,a0.p.AD,a0.p.AG,x24,y13)
 else
  (if y5.Op=6 then
   some (decide (y5.Op=6))
  else
   some (decide (y5.Op=8))).bind fun x25=>
  bif x25 then
   (if y5.N<0 then
    some true
   else
    some (decide ((y7.length:Int)<=y5.N))).bind fun x26=>
   (bif x26 then
    some y5.N
   else
    (idx y7 y5.N).bind fun y14=>
    some y14).bind fun x27=>
   some (a3,y7,a0.f.AF,a0.f.AI,a0.f.AB,a0.f.AD,a0.f.AG,a0.AP.set a1.toNat true,a0.AY.set a1.toNat a2,a0.Aa.set a1.toNat a3,a0.AU.set a1.toNat y7,a0.p.AF,a0.p.AB,a0.p.AD,a0.p.AG,x26,x27)
  else
   if y5.Op=4 then
    (if y5.N<0 then
     some true
    else
     some (decide ((a0.f.AD.length:Int)<=y5.N))).bind fun x28=>
    bif x28 then
     some (a3,a2,a0.f.AF,a0.f.AI,a0.f.AB,a0.f.AD,a0.f.AG,a0.AP.set a1.toNat true,a0.AY.set a1.toNat a2,a0.Aa.set a1.toNat a3,a0.AU.set a1.toNat y7,a0.p.AF,a0.p.AB,a0.p.AD,a0.p.AG,x28,y5.N)
    else
     (idx a0.f.AD y5.N).bind fun y15=>
     ((pK AA) (⟨(⟨a0.f.AF,a0.f.AI,a0.f.AB,a0.f.AD,a0.f.AG⟩:AH),a0.AP.set a1.toNat true,a0.AY.set a1.toNat a2,a0.Aa.set a1.toNat a3,a0.AU.set a1.toNat y7,(⟨a0.p.AF,a0.p.AB,a0.p.AD,a0.p.AG⟩:AJ),x28⟩:Ag) y15 y7 a3).bind fun y16=>
     (oH AA a2 a3 y16.2).bind fun y17=>
     (chk (a3+y16.2)).bind fun z4=>
     some (z4,y17,y16.1.f.AF,y16.1.f.AI,y16.1.f.AB,y16.1.f.AD,y16.1.f.AG,y16.1.AP,y16.1.AY,y16.1.Aa,y16.1.AU,y16.1.p.AF,y16.1.p.AB,y16.1.p.AD,y16.1.p.AG,y16.1.bad,y5.N)
   else
    some (a3,a2,a0.f.AF,a0.f.AI,a0.f.AB,a0.f.AD,a0.f.AG,a0.AP.set a1.toNat true,a0.AY.set a1.toNat a2,a0.Aa.set a1.toNat a3,a0.AU.set a1.toNat y7,a0.p.AF,a0.p.AB,a0.p.AD,a0.p.AG,a0.bad,y5.N)).bind fun (x7,x8,x9,x10,x11,x12,x13,x14,x15,x16,x17,x18,x19,x20,x21,x22,x23)=>
 (idx x19 a1).bind fun y18=>
 iK (eE AA) y5 x7 x8 AA 0 x9 x10 x11 x12 x13 x14 x15 x16 x17 x18 (x19.set a1.toNat (⟨y5.Op,x23,x2,z1⟩:AZ)) x20 x21 x22
theorem defR_S {f:AH} {k AA:Nat} (hv:RV f k (eE AA)) (hf:10000000<AA) {s:FS} {sz tk:List Int} {z:Int} {d:AN} (hd:smD d) (ht:(tk.length:Int)<=z) (hz:z+6000100*(k+1)<=400000000) (hs:WF f s) (hsz:sz.length=f.AB.length) (hu:unF s<=k):
 ∃ s' sz' b m,pK (AA+1) (cvR f s sz false) d tk z=some (cvR f s' sz' b,m)/\(0<=m/\m<=60)/\(b=false->m=bF d/\kR d)/\WF f s'/\sz'.length=f.AB.length /\
  (kR d->OkR ((bX (aT true f k) s (d.AQ.map (dU true d (tk++upto z (bF d)) (z+bF d)))).bind fun s=>bX (aT true f k) s (d.AS.map fun p=>some (p.AW,tk++upto z (bF d),z+bF d))) s' b)/\(¬ kR d->b=true):=by
 obtain⟨m1,m2,m3,m4⟩:=hd
 rw [pK]
 have bad:¬ kR d->∃ s' sz' b m,(some (cvR f s sz true,(0:Int)):Option (Ag × Int))=some (cvR f s' sz' b,m)/\(0<=m/\m<=60)/\(b=false->m=bF d/\kR d)/\WF f s'/\sz'.length=f.AB.length /\
  (kR d->OkR ((bX (aT true f k) s (d.AQ.map (dU true d (tk++upto z (bF d)) (z+bF d)))).bind fun s=>bX (aT true f k) s (d.AS.map fun p=>some (p.AW,tk++upto z (bF d),z+bF d))) s' b)/\(¬ kR d->b=true):=fun h=>
  ⟨s,sz,true,0,rfl,by omega,(fun h=>by cases h),hs,hsz,fun g=>absurd g h,fun _=>rfl⟩
 by_cases c1:30<(d.AT.length:Int)
 ·rw [a1E c1];exact bad fun h=>by have:=h.1;omega
 rw [a1D c1]
 by_cases c2:30<(d.AS.length:Int)
 ·rw [a1E c2];exact bad fun h=>by have:=h.2.1;omega
 rw [a1D c2]
 by_cases c3:30<(d.AQ.length:Int)
 ·rw [a1E c3];exact bad fun h=>by have:=h.2.2;omega
 rw [a1D c3]
 have hlim:kR d:=⟨by omega,by omega,by omega⟩
 have ho:bF d<=60:=by unfold bF;omega
 obtain⟨s1,sz1,b1,r1,g0,g1,g2,g3,g4⟩:=rulesR hv (AA:=AA) hf (d:=d) (l:=tk++upto z (bF d)) (z:=z) (m:=bF d) (by omega) (by omega) (by rw [a0F,kN];omega) (by omega) d.AQ [] AA s sz rfl (by omega) (by simp;omega) m4 hs hsz hu
 rw [show chk ((d.AT.length:Int)+(d.AS.length:Int))=some (bF d:Int)from by rw [aQ (by omega)];simp [bF],bsm,aDc (by omega) (by omega) (by omega) (by omega),bsm,a0n,
  show nA AA (eE AA) d z (bF d) (tk++upto z (bF d)) AA 0 (cvR f s sz false).f.AF (cvR f s sz false).f.AI (cvR f s sz false).f.AB (cvR f s sz false).f.AD (cvR f s sz false).f.AG (cvR f s sz false).AP (cvR f s sz false).AY (cvR f s sz false).Aa (cvR f s sz false).AU (cvR f s sz false).p.AF (cvR f s sz false).p.AB (cvR f s sz false).p.AD (cvR f s sz false).p.AG (cvR f s sz false).bad=_ from g0,bsm]
 rcases g1 with rfl | ⟨rfl,rfl⟩
 ·dsimp only [tupR];have hu1:b1=false->unF s1<=k:=fun hb=>by
   cases hq:bX (aT true f k) s (d.AQ.map (dU true d (tk++upto z (bF d)) (z+bF d)))with
   | none=>rw [hq]at g4;have g4:b1=true:=g4;rw [hb]at g4;cases g4
   | some t=>rw [hq]at g4;rw [g4.1];exact(aAa hq hs hu).2
  cases b1 with
  | true=>
   have hq:bX (aT true f k) s (d.AQ.map (dU true d (tk++upto z (bF d)) (z+bF d)))=none:=by
    cases hq:bX (aT true f k) s (d.AQ.map (dU true d (tk++upto z (bF d)) (z+bF d)))with
    | none=>rfl
    | some t=>rw [hq]at g4;cases g4.2
   refine⟨s1,sz1,true,bF d,?_,by omega,(fun h=>by cases h),g2,g3,fun _=>by rw [hq];exact gJ rfl,fun _=>rfl⟩
   obtain _ | AA:=AA
   ·omega
   rw [lI];split <;> rfl
  | false=>
   obtain⟨t,ht⟩:∃ t,bX (aT true f k) s (d.AQ.map (dU true d (tk++upto z (bF d)) (z+bF d)))=some t:=by
    cases hq:bX (aT true f k) s (d.AQ.map (dU true d (tk++upto z (bF d)) (z+bF d)))with
    | none=>rw [hq]at g4;cases g4
    | some t=>exact⟨t,rfl⟩
   rw [ht]at g4;have e1:=g4.1;subst e1;obtain⟨s2,sz2,b2,q1,q2,q3,q4⟩:=spotsR hv (d:=d) (l:=tk++upto z (bF d)) (z:=z) (m:=bF d) (by omega) (by omega) (by rw [a0F,kN];omega) (by omega) d.AS [] AA s1 sz1 false rfl (by omega) (by simp;omega) g2 g3 (hu1 rfl)
   rw [show lI (eE AA) d z (bF d) (tk++upto z (bF d)) AA 0 f.AF f.AI f.AB f.AD f.AG s1.AP s1.AY sz1 s1.AU f.AF s1.nd [] f.AG false=_ from q1,bsm];refine⟨s2,sz2,b2,bF d,rfl,by omega,fun _=>⟨rfl,hlim⟩,q2,q3,fun _=>by rw [ht,bsm];rw [a1D (by simp)]at q4;exact q4,fun h=>absurd hlim h⟩
 ·refine⟨s1,sz1,true,bF d,rfl,by omega,(fun h=>by cases h),g2,g3,fun _=>?_,fun _=>rfl⟩
  cases hq:bX (aT true f k) s (d.AQ.map (dU true d (tk++upto z (bF d)) (z+bF d)))with
  | none=>exact gJ rfl
  | some t=>rw [hq]at g4;cases g4.2
theorem argsRF {f:AH} {AA:Nat} (hf:10000000<AA) {s:FS} {sz:List Int} {n:Int} {l tk:List Int} {z:Int} {y:Ao} (AE:List AV):∀ (AC acc:List AV) (K:Nat),y.AX=AC++AE->AE.length<K->AC.length+AE.length<=3000000->acc.length+AE.length<=3000000->(∀ e∈AE,nE e<=2000000) ->
 ∃ r,pN AA (cvR f s sz false) n l z y tk K AC.length acc=some r/\(AE.all (okE l.length)=true->∃ a,opL l AE=some a/\r= .inl (acc++a))/\(AE.all (okE l.length)=false->r= .inr (cvR f (s.As n l tk) (sz.set n.toNat z) true)):=by
 induction AE with
 | nil=>
  intro AC acc K hd hk _ _ _;obtain _ | K:=K
  ·omega
  exact⟨_,by rw [pN,hd,a1D (by simp)],fun _=>⟨[],by rw [opL],by simp⟩,fun h=>by simp at h⟩
 | cons e AE ih=>
  intro AC acc K hd hk hB hA he;obtain _ | K:=K
  ·omega
  simp only [a0G]at hk hB hA;have h0:=he e (.head _);have hi:idx y.AX (AC.length:Int)=some e:=by grind [idx]
  rw [pN,a1E (by grind),hi,bsm,aEH (by omega) (by omega),bsm];cases hk2:okE l.length e with
  | false=>exact⟨_,rfl,fun h=>by simp [hk2]at h,fun _=>rfl⟩
  | true=>
   obtain⟨e',he'⟩:=open_ok.1 e l (by grind [okE])
   obtain⟨r,g1,g2,g3⟩:=ih (AC++[e]) (acc++[e']) K (by rw [hd,bR]) (by omega) (by simp;omega) (by simp;omega) (fun x hx=>he x (.tail _ hx))
   refine⟨r,?_,fun h=>?_,fun h=>?_⟩
   ·rw [a1z,bsm,exp_r AA e e' l (by omega) h0 he',bsm,dM (by simp;omega),bsm,aQ (by omega),bsm,bE];exact g1
   ·grind [opL]
   grind
theorem aI8 {f:AH} {k AA:Nat} (hm:SmF f) (hv1:RV f k (eE (AA+1))) (hv0:RV f k (eE AA)) (hf:10000000<AA) {s:FS} {sz:List Int} {n:Int} {l tk:List Int} {z:Int} {y:Ao} {a:List AV}
 (hl:(l.length:Int)<=z) (ht:(tk.length:Int)<=z) (hz:z+6000100*(k+1)<=400000000) (hy:idx f.AB n=some y) (hs:WF f s) (hsz:sz.length=f.AB.length) (hsn:idx s.AP n=some false) (hu:unF s<=k+1):
 ∃ s' sz' b,aCW (AA+1) (cvR f s sz false) n l z y tk a y.AM=some (cvR f s' sz' b)/\WF f s'/\sz'.length=f.AB.length/\OkR ((opI y l tk).bind fun m=>eS true f (aT true f k) (s.put n l tk ⟨y.Op,m,a,y.AM⟩) y l tk z) s' b:=by
 have hin:=rA hy
 have hky:=(hm.args y (eG hy)).2.1
 have hpu:unF (s.As n l tk)<=k:=by
  have:=aDk (l:=l) (t:=tk) (z:=uB) hsn;have e:unF (s.put n l tk uB)=unF (s.As n l tk):=rfl;omega
 have hps:WF f (s.As n l tk):=hs.As
 have hsz':(sz.set n.toNat z).length=f.AB.length:=by simp [hsz]
 have hseen:idx (s.As n l tk).AP n=some true:=aCg hsn
 have fin:∀ (S:FS) (SZ:List Int) (b:Bool) (z':Int) (l':List Int) (N':Int),WF f S->SZ.length=f.AB.length->(b=false->unF S<=k)->(l'.length:Int)<=z'->z'+6000100*k<=400000000 ->
  ∃ s' sz' b',((idx S.nd n).bind fun y18=>iK (eE (AA+1)) y z' l' (AA+1) 0 f.AF f.AI f.AB f.AD f.AG S.AP S.AY SZ S.AU f.AF (S.nd.set n.toNat (⟨y.Op,N',a,y.AM⟩:AZ)) [] f.AG b)=some (cvR f s' sz' b')/\WF f s'/\sz'.length=f.AB.length /\
   OkR (if b=true then none else bX (aT true f k) (S.nds n ⟨y.Op,N',a,y.AM⟩) (y.AM.map fun c=>some (c,l',z'))) s' b':=fun S SZ b z' l' N' hS hSZ hU hl' hz'=>by
  obtain⟨w0,hw0⟩:=eV (xs:=S.nd) (i:=n) hin.1 (by rw [hS.nd];exact hin.2)
  rw [hw0,bsm];cases b with
  | true=>
   refine⟨S.nds n ⟨y.Op,N',a,y.AM⟩,SZ,true,?_,hS.nds,hSZ,gJ rfl⟩;rw [iK];split <;> rfl
  | false=>exact kidsR hv1 hl' hz' y.AM [] (AA+1) (S.nds n ⟨y.Op,N',a,y.AM⟩) SZ false rfl (by omega) (by simp;omega) hS.nds hSZ (hU rfl)
 unfold aCW
 by_cases h2:y.Op=2
 ·rw [a1E h2];have hI:opI y l tk=idx l y.N:=by unfold opI;rw [a1E h2]
  have hbad:idx l y.N=none->∃ s' sz' b',((idx (s.As n l tk).nd n).bind fun y18=>iK (eE (AA+1)) y z l (AA+1) 0 f.AF f.AI f.AB f.AD f.AG (s.As n l tk).AP (s.As n l tk).AY (sz.set n.toNat z) (s.As n l tk).AU f.AF ((s.As n l tk).nd.set n.toNat (⟨y.Op,y.N,a,y.AM⟩:AZ)) [] f.AG true)=some (cvR f s' sz' b')/\WF f s'/\sz'.length=f.AB.length/\OkR ((opI y l tk).bind fun m=>eS true f (aT true f k) (s.put n l tk ⟨y.Op,m,a,y.AM⟩) y l tk z) s' b':=fun hno=>by
   rw [hI,hno];exact fin (s.As n l tk) (sz.set n.toNat z) true z l y.N hps hsz' (fun h=>by cases h) hl (by omega)
  by_cases c1:y.N<0
  ·rw [a1E c1];exact hbad (by unfold idx;rw [a1D (by omega)])
  rw [a1D c1];by_cases c2:(l.length:Int)<=y.N
  ·rw [a1B c2];refine hbad ?_;cases hi:idx l y.N with
   | none=>rfl
   | some y=>have:=rA hi;omega
  ·obtain⟨m,hmm⟩:=eV (xs:=l) (i:=y.N) (by omega) (by omega)
   rw [a1A c2,bsm,a1y,hmm,bsm,bsm,hI,hmm,bsm];obtain⟨s',sz',b',q1,q2,q3,q4⟩:=fin (s.As n l tk) (sz.set n.toNat z) false z l m hps hsz' (fun _=>hpu) hl (by omega)
   refine⟨s',sz',b',q1,q2,q3,?_⟩;unfold eS;rw [a1D (by omega),show fQ y l tk=l from by unfold fQ;rw [a1D (by omega)]];exact q4
 rw [a1D h2]
 by_cases h68:y.Op=6\/y.Op=8
 ·have hI:opI y l tk=idx tk y.N:=by unfold opI;rw [a1D h2,a1E h68]
  have hx:(if y.Op=6 then some (decide (y.Op=6)) else some (decide (y.Op=8)):Option Bool)=some true:=by
   by_cases h6:y.Op=6
   ·rw [a1E h6,a1B h6]
   ·rw [a1D h6,a1B (by omega)]
  rw [hx,bsm,a1z];have hbad:idx tk y.N=none->∃ s' sz' b',((idx (s.As n l tk).nd n).bind fun y18=>iK (eE (AA+1)) y z tk (AA+1) 0 f.AF f.AI f.AB f.AD f.AG (s.As n l tk).AP (s.As n l tk).AY (sz.set n.toNat z) (s.As n l tk).AU f.AF ((s.As n l tk).nd.set n.toNat (⟨y.Op,y.N,a,y.AM⟩:AZ)) [] f.AG true)=some (cvR f s' sz' b')/\WF f s'/\sz'.length=f.AB.length/\OkR ((opI y l tk).bind fun m=>eS true f (aT true f k) (s.put n l tk ⟨y.Op,m,a,y.AM⟩) y l tk z) s' b':=fun hno=>by
   rw [hI,hno];exact fin (s.As n l tk) (sz.set n.toNat z) true z tk y.N hps hsz' (fun h=>by cases h) ht (by omega)
  by_cases c1:y.N<0
  ·rw [a1E c1];exact hbad (by unfold idx;rw [a1D (by omega)])
  rw [a1D c1];by_cases c2:(tk.length:Int)<=y.N
  ·rw [a1B c2];refine hbad ?_;cases hi:idx tk y.N with
   | none=>rfl
   | some y=>have:=rA hi;omega
  ·obtain⟨m,hmm⟩:=eV (xs:=tk) (i:=y.N) (by omega) (by omega)
   rw [a1A c2,bsm,a1y,hmm,bsm,bsm,bsm,hI,hmm,bsm];obtain⟨s',sz',b',q1,q2,q3,q4⟩:=fin (s.As n l tk) (sz.set n.toNat z) false z tk m hps hsz' (fun _=>hpu) ht (by omega)
   refine⟨s',sz',b',q1,q2,q3,?_⟩;unfold eS;rw [a1D (by omega),show fQ y l tk=tk from by unfold fQ;rw [a1E h68]];exact q4
 have hI:opI y l tk=some y.N:=by unfold opI;rw [a1D h2,a1D h68]
 have hx:(if y.Op=6 then some (decide (y.Op=6)) else some (decide (y.Op=8)):Option Bool)=some false:=by
  rw [a1D (by omega),a1A (by omega)]
 rw [hx,bsm,a1y,hI,bsm]
 by_cases h4:y.Op=4
 ·rw [a1E h4];have hbad:idx f.AD y.N=none->∃ s' sz' b',((idx (s.As n l tk).nd n).bind fun y18=>iK (eE (AA+1)) y z l (AA+1) 0 f.AF f.AI f.AB f.AD f.AG (s.As n l tk).AP (s.As n l tk).AY (sz.set n.toNat z) (s.As n l tk).AU f.AF ((s.As n l tk).nd.set n.toNat (⟨y.Op,y.N,a,y.AM⟩:AZ)) [] f.AG true)=some (cvR f s' sz' b')/\WF f s'/\sz'.length=f.AB.length/\OkR (eS true f (aT true f k) (s.put n l tk ⟨y.Op,y.N,a,y.AM⟩) y l tk z) s' b':=fun hno=>by
   unfold eS;rw [a1E h4,hno];exact fin (s.As n l tk) (sz.set n.toNat z) true z l y.N hps hsz' (fun h=>by cases h) hl (by omega)
  by_cases c1:y.N<0
  ·rw [a1E c1];exact hbad (by unfold idx;rw [a1D (by omega)])
  rw [a1D c1];by_cases c2:(f.AD.length:Int)<=y.N
  ·rw [show decide (((cvR f s sz false).f.AD.length:Int)<=y.N)=true from a1B c2];refine hbad ?_;cases hi:idx f.AD y.N with
   | none=>rfl
   | some y=>have:=rA hi;omega
  ·obtain⟨d,hd⟩:=eV (xs:=f.AD) (i:=y.N) (by omega) (by omega)
   obtain⟨S,SZ,b,m,g1,g2,g3,g4,g5,g6,g7⟩:=defR_S hv0 hf (s:=s.As n l tk) (sz:=sz.set n.toNat z) (tk:=tk) (hm.Ab d (eG hd)) ht hz hps hsz' hpu;rw [show decide (((cvR f s sz false).f.AD.length:Int)<=y.N)=false from a1A c2,bsm,a1y,show idx (cvR f s sz false).f.AD y.N=some d from hd,bsm,
    show pK (AA+1) (⟨(⟨(cvR f s sz false).f.AF,(cvR f s sz false).f.AI,(cvR f s sz false).f.AB,(cvR f s sz false).f.AD,(cvR f s sz false).f.AG⟩:AH),(cvR f s sz false).AP.set n.toNat true,(cvR f s sz false).AY.set n.toNat l,(cvR f s sz false).Aa.set n.toNat z,(cvR f s sz false).AU.set n.toNat tk,(⟨(cvR f s sz false).p.AF,(cvR f s sz false).p.AB,(cvR f s sz false).p.AD,(cvR f s sz false).p.AG⟩:AJ),false⟩:Ag) d tk z=_ from g1,bsm,
    aDc (by omega) g2.1 (by omega) (by omega),bsm,aQ (by omega),bsm,bsm]
   have hU:b=false->unF S<=k:=fun hb=>by
    have g8:=g6 (g3 hb).2;cases q1:bX (aT true f k) (s.As n l tk) (d.AQ.map (dU true d (tk++upto z (bF d)) (z+bF d)))with
    | none=>rw [q1]at g8;have g8:b=true:=g8;rw [hb]at g8;cases g8
    | some s1=>
     rw [q1,bsm]at g8;obtain⟨w1,u1⟩:=aAa q1 hps hpu;cases q2:bX (aT true f k) s1 (d.AS.map fun p=>some (p.AW,tk++upto z (bF d),z+bF d))with
     | none=>rw [q2]at g8;have g8:b=true:=g8;rw [hb]at g8;cases g8
     | some s2=>rw [q2]at g8;rw [g8.1];exact(aAa q2 w1 u1).2
   obtain⟨s',sz',b',q1,q2,q3,q4⟩:=fin S SZ b (z+m) (l++upto z m.toNat) y.N g4 g5 hU (by rw [a0F,kN];omega) (by omega)
   refine⟨s',sz',b',q1,q2,q3,?_⟩;have H:=fun (s:FS) (m:Int) (l:List Int) (z:Int) (h:idx s.AP n=some true)=>aFe (x:=true) (f:=f) (w:=⟨y.Op,y.N,a,y.AM⟩) hin.1 k s m l z h
   have K:∀ (s:FS) (m:Int) (l:List Int) (z:Int) (s':FS),aT true f k s m l z=some s'->idx s.AP n=some true->idx s'.AP n=some true:=fun s m l z s' h h0=>aFT h h0
   unfold eS;rw [a1E h4,hd,bsm];by_cases hL:kR d
   ·rw [a1E (fun _=>hL),put_nds,sY H K _ _ hseen];have g8:=g6 hL;cases r1:bX (aT true f k) (s.As n l tk) (d.AQ.map (dU true d (tk++upto z (bF d)) (z+bF d)))with
    | none=>
     rw [r1]at g8;have g8:b=true:=g8;subst g8
     exact q4
    | some s1=>
     rw [r1,bsm]at g8;have hs1:=pC (R:=fun s=>idx s.AP n=some true) (fun s m l z s' h h0=>K s m l z s' h h0) _ _ _ r1 hseen
     rw [bsm,bsm,sY H K _ _ hs1];cases r2:bX (aT true f k) s1 (d.AS.map fun p=>some (p.AW,tk++upto z (bF d),z+bF d))with
     | none=>
      rw [r2]at g8;have g8:b=true:=g8;subst g8
      exact q4
     | some s2=>
      rw [r2]at g8;obtain⟨e1,e2⟩:=g8;subst e1;subst e2
      have hmo:=(g3 rfl).1;subst hmo;rw [bsm,bsm];rw [a1D (by simp),a0n]at q4;exact q4
   ·have hb:=g7 hL;subst hb;rw [a1D (fun h=>hL (h rfl))];exact q4
 ·rw [a1D h4,bsm];obtain⟨s',sz',b',q1,q2,q3,q4⟩:=fin (s.As n l tk) (sz.set n.toNat z) false z l y.N hps hsz' (fun _=>hpu) hl (by omega)
  refine⟨s',sz',b',q1,q2,q3,?_⟩;unfold eS;rw [a1D h4,show fQ y l tk=l from by unfold fQ;rw [a1D h68]];exact q4
open Go.SX Go.SW Go.Dt
theorem rnode {f:AH} {k AA:Nat} (hm:SmF f) (hv1:RV f k (eE (AA+1))) (hv0:RV f k (eE AA)) (hf:10000000<AA):RV f (k+1) (eE (AA+2)):=by
 refine⟨fun s sz n l z hs hsz hu hl hz=>?_⟩
 rw [eE,show(cvR f s sz false).bad=false from rfl,a1y]
 by_cases c1:n<0
 ·rw [a1E c1,aT,a1D (by omega)];exact⟨s,sz,true,rfl,hs,hsz,gJ rfl⟩
 rw [a1D c1]
 by_cases c2:(f.AB.length:Int)<=n
 ·rw [a1E (show((cvR f s sz false).f.AB.length:Int)<=n from c2),aT,a1D (by omega)];exact⟨s,sz,true,rfl,hs,hsz,gJ rfl⟩
 rw [a1D (show ¬ ((cvR f s sz false).f.AB.length:Int)<=n from c2)]
 obtain⟨q,hq⟩:=eV (xs:=s.AP) (i:=n) (by omega) (by rw [hs.AP];omega)
 obtain⟨l0,hl0⟩:=eV (xs:=s.AY) (i:=n) (by omega) (by rw [hs.AY];omega)
 obtain⟨t0,ht0⟩:=eV (xs:=s.AU) (i:=n) (by omega) (by rw [hs.AU];omega)
 obtain⟨z0,hz0⟩:=eV (xs:=sz) (i:=n) (by omega) (by rw [hsz];omega)
 obtain⟨y,hy⟩:=eV (xs:=f.AB) (i:=n) (by omega) (by omega)
 rw [show idx (cvR f s sz false).AP n=some q from hq,bsm]
 cases q with
 | true=>
  rw [a1z,aT,a1D (by rw [hq];rintro⟨_,_,h⟩;cases h)];exact⟨s,sz,true,rfl,hs,hsz,gJ rfl⟩
 | false=>
  have hfv:iQ true y l->aT true f (k+1) s n l z=(opN y l (pick l y.AI)).bind fun w=>eS true f (aT true f k) (s.put n l (pick l y.AI) w) y l (pick l y.AI) z:=fun h=>by
   rw [aT,a1E ⟨by omega,by omega,hq⟩,hy,bsm,a1E h]
  have hfn:¬ iQ true y l->aT true f (k+1) s n l z=none:=fun h=>by
   rw [aT,a1E ⟨by omega,by omega,hq⟩,hy,bsm,a1D h]
  have hbad:∀ (S:FS) (SZ:List Int),WF f S->SZ.length=f.AB.length->¬ iQ true y l->∃ s' sz' b,(some (cvR f S SZ true):Option Ag)=some (cvR f s' sz' b)/\WF f s'/\sz'.length=f.AB.length/\OkR (aT true f (k+1) s n l z) s' b:=fun S SZ h1 h2 h3=>by
   rw [hfn h3];exact⟨S,SZ,true,rfl,h1,h2,gJ rfl⟩
  have hsz':(sz.set n.toNat z).length=f.AB.length:=by simp [hsz]
  have hS0:WF f ⟨s.AP.set n.toNat true,s.AY.set n.toNat l,s.AU,s.nd⟩:=⟨by simp [hs.AP],by simp [hs.AY],hs.AU,hs.nd⟩
  have hT:=hm.takes y (eG hy);obtain⟨a1,a2,a3⟩:=hm.args y (eG hy);have hx1:(if y.Op=4 then some true else if y.Op=6 then some true else if y.Op=7 then some true else some (decide (y.Op=8)):Option Bool)=some (fN y.Op):=by
   have:=aCv y.Op;rw [qT]at this;cases hq:(if y.Op=4 then some true else if y.Op=6 then some true else if y.Op=7 then some true else some (decide (y.Op=8)):Option Bool)with
   | none=>rw [hq]at this;cases this
   | some b=>rw [hq]at this;exact this
  rw [a1y,bsm,show idx (cvR f s sz false).AY n=some l0 from hl0,bsm,show idx (cvR f s sz false).Aa n=some z0 from hz0,bsm,show idx (cvR f s sz false).f.AB n=some y from hy,bsm,hx1,bsm,aFh (l:=y.AI) (b:=l.length) (by omega) (by omega),bsm];by_cases hr:dV l.length none y.AI=true
  ·rw [hr,a0k,a1y];have hpl:(pick l y.AI).length<=l.length:=by
    rw [aAU];have:=xB (b:=l.length) (by omega) hr;omega
   have hnA:3<(y.AX.length:Int)->¬ iQ true y l:=fun h g=>by have:=(g.2 rfl).1;omega
   have hnK:2<(y.AM.length:Int)->¬ iQ true y l:=fun h g=>by have:=(g.2 rfl).2.1;omega
   have fin:(fN y.Op=true\/y.AI=[])->y.AX.length<=3->y.AM.length<=2->∃ s' sz' b,((wD (AA+1) l y.AI).bind fun y7=>
    (idx (cvR f s sz false).AU n).bind fun y8=>
    (cQ ([]++y.AM)).bind fun z1=>
    (pN (AA+1) (cvR f s sz false) n l z y y7 (AA+1) 0 []).bind fun o=>match o with
    | Sum.inr r=>some r
    | Sum.inl x2=>aCW (AA+1) (cvR f s sz false) n l z y y7 x2 z1)=some (cvR f s' sz' b)/\WF f s'/\sz'.length=f.AB.length/\OkR (aT true f (k+1) s n l z) s' b:=fun hk hA hK=>by
    obtain⟨r,g1,g2,g3⟩:=argsRF (f:=f) (s:=s) (sz:=sz) (n:=n) (l:=l) (tk:=pick l y.AI) (z:=z) (y:=y) (AA:=AA+1) (by omega) y.AX [] [] (AA+1) rfl (by omega) (by simp;omega) (by simp;omega) a3
    simp only [a0J,a0m,a0X]at g1 g2;rw [pick_r (by omega) (by omega) (zT hr),bsm,show idx (cvR f s sz false).AU n=some t0 from ht0,bsm,a0X,dM (by omega),bsm,g1,bsm];cases hall:y.AX.all (okE l.length)with
    | false=>
     rw [g3 hall];exact hbad (s.As n l (pick l y.AI)) (sz.set n.toNat z) hs.As hsz' (fun g=>by have:=(g.2 rfl).2.2;rw [hall]at this;cases this)
    | true=>
     obtain⟨a,h1,h2⟩:=g2 hall;subst h2;have hok:iQ true y l:=⟨⟨hk,hr⟩,fun _=>⟨hA,hK,hall⟩⟩
     obtain⟨s',sz',b,q1,q2,q3,q4⟩:=aI8 hm hv1 hv0 hf (s:=s) (sz:=sz) (n:=n) (l:=l) (tk:=pick l y.AI) (z:=z) (y:=y) (a:=a) hl (by omega) (by omega) hy hs hsz hq hu
     refine⟨s',sz',b,q1,q2,q3,?_⟩;rw [hfv hok,opN,h1];cases hI:opI y l (pick l y.AI)with
     | none=>rw [hI]at q4;exact q4
     | some m=>rw [hI]at q4;exact q4
   cases ht:fN y.Op with
   | false=>
    rw [a0j,a1z];by_cases hk:y.AI=[]
    ·rw [a1D (by rw [hk];simp)];by_cases cA:3<(y.AX.length:Int)
     ·rw [a1E cA];exact hbad _ (sz.set n.toNat z) hS0 hsz' (hnA cA)
     rw [a1D cA];by_cases cK:2<(y.AM.length:Int)
     ·rw [a1E cK];exact hbad _ (sz.set n.toNat z) hS0 hsz' (hnK cK)
     rw [a1D cK,bsm];exact fin (.inr hk) (by omega) (by omega)
    ·rw [a1E (by have:=List.length_pos_iff.2 hk;omega)];exact hbad _ (sz.set n.toNat z) hS0 hsz' (fun g=>by
      rcases g.1.1 with h | h
      ·rw [ht]at h;cases h
      ·exact hk h)
   | true=>
    rw [a0k,a1y];by_cases cA:3<(y.AX.length:Int)
    ·rw [a1E cA];exact hbad _ (sz.set n.toNat z) hS0 hsz' (hnA cA)
    rw [a1D cA];by_cases cK:2<(y.AM.length:Int)
    ·rw [a1E cK];exact hbad _ (sz.set n.toNat z) hS0 hsz' (hnK cK)
    rw [a1D cK,bsm];exact fin (.inl ht) (by omega) (by omega)
  ·rw [Bool.eq_false_iff.2 hr,a0j,a1z];exact hbad _ (sz.set n.toNat z) hS0 hsz' (fun g=>hr g.1.2)
theorem rnode0 {f:AH} {AA:Nat}:RV f 0 (eE (AA+1)):=by
 refine⟨fun s sz n l z hs hsz hu hl hz=>?_⟩
 rw [eE,show(cvR f s sz false).bad=false from rfl,a1y]
 by_cases c1:n<0
 ·rw [a1E c1];exact⟨s,sz,true,rfl,hs,hsz,gJ rfl⟩
 rw [a1D c1]
 by_cases c2:(f.AB.length:Int)<=n
 ·rw [a1E (show((cvR f s sz false).f.AB.length:Int)<=n from c2)];exact⟨s,sz,true,rfl,hs,hsz,gJ rfl⟩
 rw [a1D (show ¬ ((cvR f s sz false).f.AB.length:Int)<=n from c2)]
 obtain⟨q,hq⟩:=eV (xs:=s.AP) (i:=n) (by omega) (by rw [hs.AP];omega)
 rw [show idx (cvR f s sz false).AP n=some q from hq,bsm]
 cases q with
 | true=>exact⟨s,sz,true,rfl,hs,hsz,gJ rfl⟩
 | false=>have:=aG2 hq;omega
theorem rvisF {f:AH} (hm:SmF f):∀ (k AA:Nat),10000000+2*k<AA->RV f k (eE AA)
 | 0,AA+1,_=>rnode0
 | k+1,AA+2,h=>rnode hm (rvisF hm k (AA+1) (by omega)) (rvisF hm k AA (by omega)) (by omega)
open Go.SX Go.SW Go.Dt
theorem aGg {p:AJ} {sz:List Int} {AR Ab:List Bool} (hl:sz.length=p.AB.length) (hB:sz.length<=1000):∀ (d i k:Nat),i+d=sz.length->d<k->oK ⟨p,sz,AR,Ab⟩ p (fun x=>qO x.1 x.2) k (sz.take i) i=some sz
 | 0,i,k,h,hk=>by
  obtain _ | k:=k
  ·omega
  rw [oK,a1D (by omega),a1e (by omega)]
 | d+1,i,k,h,hk=>by
  obtain _ | k:=k
  ·omega
  have hi:i<sz.length:=by omega
  rw [oK,a1E (by omega)];dsimp only
  rw [qO,show idx sz (i:Int)=some sz[i]from nZ (a0y hi),bsm,bsm];have hr:cQ (sz.take i++[sz[i]])=some (sz.take (i+1)):=by
   have:sz.take i++[sz[i]]=sz.take (i+1):=by rw [List.take_add_one,a0y hi];rfl
   rw [this];unfold cQ;rw [a1E (by simp;omega)]
  rw [hr,bsm,aQ (by omega),bsm];exact aGg hl hB d (i+1) k (by omega) (by omega)
theorem sizes_eq {p:AJ} (hp:SmP p) {s:VS} (h:dT p=some s) (hl:s.sz.length=p.AB.length) (hB:p.AB.length<=60):aAg F p=some (s.sz,0):=by
 have e:=aGg (p:=p) (sz:=s.sz) (AR:=s.AR) (Ab:=s.Ab) hl (by omega) s.sz.length 0 F (by omega) (by rw [hl];show _<1000000000;omega)
 rw [List.take_zero]at e
 rw [aAg,aBL,aBj,show(⟨p.AF,p.AB,p.AD,p.AG⟩:AJ)=p from rfl,aDV hp,bsm,h]
 simp only [jI]
 rw [zC]
 have e':oK ⟨p,s.sz,s.AR,s.Ab⟩ p (fun x=>qO x.1 x.2) F [] 0=some s.sz:=e
 rw [e',bsm,bsm,bsm,bsm]
abbrev E:=List (Option (Int × Int))
def chs (m:Int) (d:AN):E:=(List.range d.AT.length).map fun c:Nat=>some (m,(c:Int))
def inE (e:E) (m:Int) (d:AN):E:=e++chs m d++List.replicate d.AS.length none
def ruE (e:E) (m:Int) (d:AN) (r:Ah):E:=inE e m d++List.replicate (brs d.AT r.Ad).toNat none
def subs (p:AJ) (x:AZ) (e:E):List (Int × E):=
 if x.Op=4 then match idx p.AD x.N with
  | some d=>d.AQ.map (fun r=>(r.AW,ruE e x.N d r))++(d.AS.map (fun y=>(y.AW,inE e x.N d))++x.AM.map (fun k=>(k,inE e x.N d)))
  | none=>[]
 else x.AM.map (fun k=>(k,e))
def okT (p:AJ) (x:AZ) (size:Int):Prop:=
 ((x.Op=1\/x.Op=7)/\x.AM.length=0)\/((x.Op=3\/x.Op=5)/\x.AM.length=2)\/(x.Op=2/\x.AX.length<=3/\x.AM.length=0/\0<=x.N/\x.N<size)\/((x.Op=6\/x.Op=8)/\x.AM.length=1)\/(x.Op=4/\x.AM.length=1/\0<=x.N/\∃ d,idx p.AD x.N=some d/\okD d=true)
def Tr (p:AJ):Nat->Int × E->Prop
 | 0,_=>False
 | h+1,q=>∃ x,idx p.AB q.1=some x/\0<=q.1/\okT p x q.2.length/\∀ k∈subs p x q.2,Tr p h k
structure Chg (s s':VS) (N:List (Int × E)) (D:List (Int × Int)):Prop where
 nn:(N.map (·.1)).Nodup
 dn:(D.map (·.1)).Nodup
 new:∀ q∈N,idx s.AR q.1=some false/\idx s'.AR q.1=some true/\idx s'.sz q.1=some (q.2.length:Int)
 newd:∀ q∈D,idx s.Ab q.1=some false/\idx s'.Ab q.1=some true
 old:∀ i,i ∉ N.map (·.1)->idx s'.AR i=idx s.AR i/\idx s'.sz i=idx s.sz i
 oldd:∀ i,i ∉ D.map (·.1)->idx s'.Ab i=idx s.Ab i
 ls:s'.sz.length=s.sz.length
 lm:s'.AR.length=s.AR.length
def mark (s:VS) (n z:Int) (x:AZ):VS:=⟨s.sz.set n.toNat z,s.AR.set n.toNat true,if x.Op=4 then s.Ab.set x.N.toNat true else s.Ab⟩
theorem aDA {g:VS->Int->Int->Option VS}:∀ (l m:List (Int × Int)) (s:VS),cS g s (l++m)=(cS g s l).bind fun s=>cS g s m
 | [],m,s=>rfl
 | x :: l,m,s=>by
  simp only [a0q,cS];cases g s x.1 x.2 with
  | none=>rfl
  | some s1=>exact aDA l m s1
theorem qL {α:Type} {l:List α} {n:Int} {b:α} (h0:0<=n) (h:n<l.length):idx (l.set n.toNat b) n=some b:=by
 have:idx (l.set n.toNat b) (n.toNat:Int)=some b:=nZ (by rw [a0B,a1E rfl,a1E (by omega)])
 rwa [Int.toNat_of_nonneg h0]at this
theorem nQ {α:Type} {l:List α} {n i:Int} {b:α} (h0:0<=n) (h:i≠n):idx (l.set n.toNat b) i=idx l i:=by
 unfold idx
 split
 ·rename_i hi;exact a0C (by omega)
 ·rfl
theorem eY {α:Type} {l:List α} {n:Int} {a:α} (h:idx l n=some a):0<=n/\n<l.length:=by
 by_cases c:0<=n/\n<l.length
 ·exact c
 ·rw [aEB c]at h;cases h
open Go.SX Go.SW Go.Dt
def chD (d:AN) (z:Int):List (Int × Int):=d.AQ.map (fun r=>(r.AW,z+own d+brs d.AT r.Ad))++d.AS.map (fun y=>(y.AW,z+own d))
def gV (p:AJ) (x:AZ) (z:Int):List (Int × Int):=
 if x.Op=4 then match idx p.AD x.N with
  | some d=>chD d z++x.AM.map (fun k=>(k,z+own d))
  | none=>[]
 else x.AM.map (fun k=>(k,z))
structure Ok1 (p:AJ) (x:AZ) (z:Int):Prop where
 def_:x.Op=4->∃ d,idx p.AD x.N=some d/\okD d=true
 name:x.Op=2\/x.Op=6\/x.Op=8->0<=x.N/\x.N<z
 args:x.AX.all (okE z)=true
 la:x.AX.length<=3
 lk:x.AM.length<=2
 stop:x.Op=7->x.AM=[]
structure iS (p:AJ) (sz:List Int) (rk:Int->Nat) (i:Int) (x:AZ) (z:Int):Prop where
 node:idx p.AB i=some x
 size:idx sz i=some z
 ok:Ok1 p x z
 pos:0<=z
 below:∀ c∈gV p x z,idx sz c.1=some c.2/\rk c.1<rk i/\∃ y,idx p.AB c.1=some y
def Nw (s s':VS) (i:Int):Prop:=idx s.AR i=some false/\idx s'.AR i=some true
structure Kp (s s':VS):Prop where
 old:∀ i,idx s.AR i=some true->idx s'.AR i=some true/\idx s'.sz i=idx s.sz i
 lm:s'.AR.length=s.AR.length
theorem Kp.refl {s:VS}:Kp s s:=⟨fun _ h=>⟨h,rfl⟩,rfl⟩
theorem Kp.trans {a b c:VS} (h:Kp a b) (k:Kp b c):Kp a c:=⟨fun i hi=>⟨(k.old i (h.old i hi).1).1,((k.old i (h.old i hi).1).2).trans (h.old i hi).2⟩,k.lm.trans h.lm⟩
theorem aDs {l m:List Bool} (h:m.length=l.length) {i:Int} (hi:idx m i=some true):idx l i=some true\/idx l i=some false:=by
 have h1:=eY hi
 obtain⟨b,hb⟩:=gA (xs:=l) h1.1 (by omega)
 cases b
 ·exact .inr hb
 ·exact .inl hb
structure Vo (p:AJ) (f:Nat) (Z:Int) (s s':VS) (rk:Int->Nat):Prop where
 kp:Kp s s'
 good:∀ i,Nw s s' i->rk i<f/\∃ x z,iS p s'.sz rk i x z/\z+100*(rk i:Int)<=Z/\∀ c∈gV p x z,Nw s s' c.1
theorem aGF {p:AJ} {f:Nat} {zm:Int} (ih:∀ s s' n z,s.sz.length=s.AR.length->0<=z->vis p f s n z=some s'->s'.sz.length=s'.AR.length/\∃ rk,Vo p f (z+100*f) s s' rk/\Nw s s' n/\idx s'.sz n=some z):
 ∀ (l:List (Int × Int)) (s s':VS),s.sz.length=s.AR.length->(∀ c∈l,0<=c.2/\c.2<=zm)->cS (vis p f) s l=some s'->s'.sz.length=s'.AR.length/\∃ rk,Vo p f (zm+100*f) s s' rk/\∀ c∈l,Nw s s' c.1/\idx s'.sz c.1=some c.2
 | [],s,s',hs,_,h=>by
  cases h;exact⟨hs,fun _=>0,⟨.refl,fun i hi=>by have:=hi.1.symm.trans hi.2;cases this⟩,fun c hc=>by cases hc⟩
 | c :: l,s,s',hs,hz,h=>by
  obtain⟨s1,e1,e2⟩:=bind_some h;obtain⟨l1,rk1,v1,n1,z1⟩:=ih s s1 c.1 c.2 hs (hz c (.head _)).1 e1;have hzc:=(hz c (.head _)).2;obtain⟨l2,rk2,v2,n2⟩:=aGF ih l s1 s' l1 (fun c hc=>hz c (.tail _ hc)) e2
  refine⟨l2,fun i=>if idx s1.AR i=some true then rk1 i else rk2 i,⟨v1.kp.trans v2.kp,fun i hi=>?_⟩,fun c' hc'=>?_⟩
  ·by_cases hm:idx s1.AR i=some true
   ·obtain⟨h1,x,z,g,hZ,hb⟩:=v1.good i ⟨hi.1,hm⟩;rw [a1E hm];refine⟨h1,x,z,⟨g.node,(v2.kp.old i hm).2.trans g.size,g.ok,g.pos,fun c hc=>?_⟩,by omega,fun c hc=>?_⟩
    ·have hc1:=(hb c hc).2;obtain⟨q1,q2,q3⟩:=g.below c hc;refine⟨(v2.kp.old c.1 hc1).2.trans q1,?_,q3⟩;simp only [a1E hm,a1E hc1];exact q2
    ·exact⟨(hb c hc).1,(v2.kp.old c.1 (hb c hc).2).1⟩
   ·have hm2:idx s1.AR i=some false:=by
     rcases aDs v2.kp.lm hi.2 with h | h
     ·exact absurd h hm
     ·exact h
    obtain⟨h1,x,z,g,hZ,hb⟩:=v2.good i ⟨hm2,hi.2⟩;rw [a1D hm];refine⟨h1,x,z,⟨g.node,g.size,g.ok,g.pos,fun c hc=>?_⟩,hZ,fun c hc=>?_⟩
    ·have hc1:=(hb c hc).1;obtain⟨q1,q2,q3⟩:=g.below c hc;refine⟨q1,?_,q3⟩;simp only [a1D hm,hc1,a1v,Bool.false_eq_true,if_false];exact q2
    ·refine⟨?_,(hb c hc).2⟩;rcases aDs (l:=s.AR) (m:=s'.AR) (v2.kp.lm.trans v1.kp.lm) (hb c hc).2 with h | h
     ·have:=(v1.kp.old _ h).1.symm.trans (hb c hc).1;cases this
     ·exact h
  ·rcases a0R.1 hc' with rfl | hc'
   ·exact⟨⟨n1.1,(v2.kp.old _ n1.2).1⟩,(v2.kp.old _ n1.2).2.trans z1⟩
   ·obtain⟨h1,h2⟩:=n2 c' hc';refine⟨⟨?_,h1.2⟩,h2⟩;rcases aDs (l:=s.AR) (m:=s'.AR) (v2.kp.lm.trans v1.kp.lm) h1.2 with h | h
    ·have:=(v1.kp.old _ h).1.symm.trans h1.1;cases this
    ·exact h
theorem own_pos (d:AN):0<=own d:=by unfold own;omega
theorem chs2_pos {p:AJ} {x:AZ} {z:Int} (hz:0<=z) (hd:x.Op=4->∃ d,idx p.AD x.N=some d/\okD d=true):∀ c∈gV p x z,0<=c.2/\c.2<=z+69:=by
 intro c hc
 unfold gV at hc
 split at hc
 ·rename_i h4;obtain⟨d,e,ok⟩:=hd h4;rw [e]at hc;simp only [chD,a0O,a0T]at hc;have:=own_pos d;have hl:=gO ok;have ho:own d<=60:=by unfold own;omega
  rcases hc with(⟨r,hr,rfl⟩ | ⟨y,hy,rfl⟩) | ⟨k,hk,rfl⟩
  ·have b:=tG (ch:=d.AT) (js:=r.Ad) (hl.2.2.2.2 r hr).2;have:=(hl.2.2.2.2 r hr).1;simp only;omega
  ·simp only;omega
  ·simp only;omega
 ·simp only [a0T]at hc;obtain⟨k,_,rfl⟩:=hc;simp only;omega
theorem okN_ok1 {p:AJ} {s:VS} {x:AZ} {z:Int} (h:okN p s x z) (hd:x.Op=4->∃ d,idx p.AD x.N=some d/\okD d=true):Ok1 p x z:=by
 have ⟨la,lk,aa,_⟩:=aHr h
 refine⟨hd,fun ho=>?_,aa,la,lk,fun o7=>?_⟩
 rotate_left
 ·obtain⟨⟨k,c,hs,hk,_⟩,_⟩:=h;rw [o7]at hs;simp [shp]at hs;obtain⟨rfl,rfl⟩:=hs;exact a0s hk
 obtain⟨⟨k,c,hs,_,hm⟩,_⟩:=h
 rcases ho with ho | ho | ho <;> rw [ho]at hs <;> simp [shp]at hs <;> obtain⟨rfl,rfl⟩:=hs <;> exact hm.1
theorem aA2 {p:AJ} {f:Nat} {s s':VS} {n z:Int} (h:vis p (f+1) s n z=some s'):
 ∃ x,idx p.AB n=some x/\idx s.AR n=some false/\okN p s x z/\(x.Op=4->∃ d,idx p.AD x.N=some d/\okD d=true)/\cS (vis p f) (mark s n z x) (gV p x z)=some s':=by
 simp only [vis]at h
 split at h
 ·rename_i h1;obtain⟨x,ex,h⟩:=bind_some h;split at h
  ·rename_i h2;refine⟨x,ex,h1.2.2,h2,?_⟩;split at h
   ·rename_i h4;obtain⟨d,ed,h⟩:=bind_some h;split at h
    ·rename_i h5;refine⟨fun _=>⟨d,ed,h5⟩,?_⟩
     simp only [mark,gV,a1E h4,ed,chD];rw [List.append_assoc,aDA];obtain⟨s1,e1,h⟩:=bind_some h;rw [e1,bsm,aDA];exact h
    ·cases h
   ·rename_i h4;refine⟨fun q=>absurd q h4,?_⟩
    simp only [mark,gV,a1D h4];exact h
  ·cases h
 ·cases h
theorem vis_vo {p:AJ}:∀ (f:Nat) (s s':VS) (n z:Int),s.sz.length=s.AR.length->0<=z->vis p f s n z=some s'->s'.sz.length=s'.AR.length/\∃ rk,Vo p f (z+100*f) s s' rk/\Nw s s' n/\idx s'.sz n=some z
 | 0,s,s',n,z,_,_,h=>by simp [vis]at h
 | f+1,s,s',n,z,hs,hz,h=>by
  obtain⟨x,ex,hm,ok,hd,hl⟩:=aA2 h;have h0:=eY hm;have hml:(mark s n z x).AR.length=s.AR.length:=by simp [mark]
  obtain⟨l2,rk,v,hc⟩:=aGF (p:=p) (f:=f) (zm:=z+69) (fun s s' n z=>vis_vo f s s' n z) (gV p x z) (mark s n z x) s' (by simp [mark,hs]) (chs2_pos hz hd) hl
  have e1:idx (mark s n z x).AR n=some true:=qL h0.1 h0.2;have e2:idx (mark s n z x).sz n=some z:=qL h0.1 (by omega)
  have e3:∀ i,i≠n->idx (mark s n z x).AR i=idx s.AR i/\idx (mark s n z x).sz i=idx s.sz i:=fun i hi=>⟨nQ h0.1 hi,nQ h0.1 hi⟩
  have hn:=v.kp.old n e1;have hw:∀ i,Nw (mark s n z x) s' i->Nw s s' i/\i≠n:=fun i hi=>by
   have hne:i≠n:=fun q=>by subst q;have:=e1.symm.trans hi.1;cases this
   exact⟨⟨(e3 i hne).1.symm.trans hi.1,hi.2⟩,hne⟩
  refine⟨l2,fun i=>if i=n then f else rk i,⟨⟨fun i hi=>?_,v.kp.lm.trans hml⟩,fun i hi=>?_⟩,⟨hm,hn.1⟩,hn.2.trans e2⟩
  ·have hne:i≠n:=fun q=>by subst q;have:=hm.symm.trans hi;cases this
   have:=v.kp.old i ((e3 i hne).1.trans hi);exact⟨this.1,this.2.trans (e3 i hne).2⟩
  ·by_cases hne:i=n
   ·subst hne;rw [a1E rfl];refine⟨Nat.lt_succ_self f,x,z,⟨ex,hn.2.trans e2,okN_ok1 ok hd,hz,fun c hcm=>?_⟩,by omega,fun c hcm=>(hw _ (hc c hcm).1).1⟩
    obtain⟨q1,q2⟩:=hc c hcm;obtain⟨q3,y,_,g,_,_⟩:=v.good _ q1;refine⟨q2,?_,y,g.node⟩;rw [a1E rfl,a1D (hw _ q1).2];exact q3
   ·have hi':Nw (mark s n z x) s' i:=⟨(e3 i hne).1.trans hi.1,hi.2⟩;obtain⟨q1,y,w,g,hZ,hb⟩:=v.good i hi';rw [a1D hne];refine⟨Nat.lt_succ_of_lt q1,y,w,⟨g.node,g.size,g.ok,g.pos,fun c hcm=>?_⟩,by omega,fun c hcm=>(hw _ (hb c hcm)).1⟩
    obtain⟨r1,r2,r3⟩:=g.below c hcm;refine⟨r1,?_,r3⟩;rw [a1D hne,a1D (hw _ (hb c hcm)).2];exact r2
structure Fm (p:AJ) (sz:List Int) (rk:Int->Nat):Prop where
 len:sz.length=p.AB.length
 n60:p.AB.length<=60
 f12:p.AF.length<=12
 d12:p.AD.length<=12
 good:∀ i,0<=i->i<(p.AB.length:Int)->rk i<60/\∃ x z,iS p sz rk i x z/\z<=6012
 main:idx sz p.AG=some (p.AF.length:Int)
 oks:∀ d∈p.AD,okD d=true
theorem fm_of {p:AJ} {s:VS} (h:dT p=some s):∃ rk,Fm p s.sz rk:=by
 have hd:=aAO h
 unfold dT at h
 split at h
 ·rename_i h1;obtain⟨s1,e1,h⟩:=bind_some h;split at h
  ·rename_i h2;cases h;obtain⟨l,rk,v,hn,hz⟩:=vis_vo _ _ _ _ _ (by simp [start]) (by omega) e1
   have hlm:s.AR.length=p.AB.length:=by rw [v.kp.lm];simp [start]
   refine⟨rk,by rw [l,hlm],h1.2.1,h1.1,h1.2.2.1,fun i h0 hi=>?_,hz,hd⟩
   have hs:idx (start p).AR i=some false:=by
    rw [start];simp only
    obtain⟨b,hb⟩:=gA (xs:=List.replicate p.AB.length false) h0 (by simpa using hi)
    rw [hb];have:=eG hb;rw [List.eq_of_mem_replicate this]
   have ht:idx s.AR i=some true:=by
    obtain⟨b,hb⟩:=gA (xs:=s.AR) h0 (by omega)
    have:=a0o.1 h2.1 b (eG hb);cases b
    ·cases this
    ·exact hb
   obtain⟨q,x,z,g,hZ,_⟩:=v.good i ⟨hs,ht⟩;exact⟨by omega,x,z,g,by omega⟩
  ·cases h
 ·cases h
end Go.Proofs.YtgidgoahhepmlaaGreat

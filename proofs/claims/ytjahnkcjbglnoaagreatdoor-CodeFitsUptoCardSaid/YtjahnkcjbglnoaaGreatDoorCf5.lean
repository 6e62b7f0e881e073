/- Parts of the proof: lemmas, and the steps through the program. -/
import Derived.Test.YtjahnkcjbglnoaaGreatDoorCf4
set_option linter.unusedVariables false
set_option linter.unusedSimpArgs false
set_option maxRecDepth 100000
set_option maxHeartbeats 2000000
namespace Go.Proofs.YtjahnkcjbglnoaaGreatDoor
open Go.SX Go.SW Go.Dt
attribute [local irreducible] Code.wpIn wpListIn Exit.then Exit.inBlock
def kU (AA:Nat) (a0:AL):Nat->Int->Bool->Option (Bool)
| 0,_,_=>none
| k+1,x4,x5=>
 if x4<(a0.AF.length:Int)then
  (bif x5 then
   some true
  else
   (idx a0.AF x4).bind fun y1=>
   (tH AA y1).bind fun y2=>
   bif !y2 then
    some true
   else
    if 0<x4 then
     (idx a0.AF x4).bind fun y3=>
     (chk (x4 - 1)).bind fun z1=>
     (idx a0.AF z1).bind fun y4=>
     some (sle y3 y4)
    else
     some false).bind fun x6=>
  (chk (x4+1)).bind fun z2=>
  kU AA a0 k z2 x6
 else
  some x5
def mM (AA:Nat) (a0:AL):Nat->Int->Bool->Option (Bool)
| 0,_,_=>none
| k+1,x10,x11=>
 if x10<(a0.AE.length:Int)then
  (bif x11 then
   some true
  else
   (idx a0.AE x10).bind fun y5=>
   (yJ AA y5).bind fun y6=>
   some (!y6)).bind fun x12=>
  (chk (x10+1)).bind fun z3=>
  mM AA a0 k z3 x12
 else
  some x11
def mE (y10:Aj):Nat->Int->Bool->Option (Bool)
| 0,_,_=>none
| k+1,x16,x17=>
 if x16<(y10.An.length:Int)then
  (bif x17 then
   some true
  else
   (idx y10.An x16).bind fun y11=>
   some (decide (y11=0))).bind fun x18=>
  (chk (x16+1)).bind fun z4=>
  mE y10 k z4 x18
 else
  some x17
def mH (y10:Aj):Nat->Int->Bool->Option (Bool)
| 0,_,_=>none
| k+1,x22,x23=>
 if x22<(y10.Am.length:Int)then
  (bif x23 then
   some true
  else
   (idx y10.Am x22).bind fun y12=>
   some (decide (y12=0))).bind fun x24=>
  (chk (x22+1)).bind fun z5=>
  mH y10 k z5 x24
 else
  some x23
def xC (AA:Nat) (a0:AL):Option (Aj):=
 if 12<(a0.AF.length:Int)then
  some (⟨(⟨a0.AF,a0.AH,a0.AE,a0.AG⟩:AL),[],[],[],true⟩:Aj)
 else
  if 60<(a0.AH.length:Int)then
   some (⟨(⟨a0.AF,a0.AH,a0.AE,a0.AG⟩:AL),[],[],[],true⟩:Aj)
  else
   if 12<(a0.AE.length:Int)then
    some (⟨(⟨a0.AF,a0.AH,a0.AE,a0.AG⟩:AL),[],[],[],true⟩:Aj)
   else
    (kU AA a0 AA 0 false).bind fun x1=>
    (mM AA a0 AA 0 x1).bind fun x7=>
    (mk 0 (a0.AH.length:Int)).bind fun y7=>
    (mk 0 (a0.AH.length:Int)).bind fun y8=>
    (mk 0 (a0.AE.length:Int)).bind fun y9=>
    bif x7 then
     some (⟨(⟨a0.AF,a0.AH,a0.AE,a0.AG⟩:AL),y7,y8,y9,x7⟩:Aj)
    else
     (fH AA (⟨(⟨a0.AF,a0.AH,a0.AE,a0.AG⟩:AL),y7,y8,y9,x7⟩:Aj) a0.AG (a0.AF.length:Int)).bind fun y10=>
     (mE y10 AA 0 y10.bad).bind fun x13=>
     (mH y10 AA 0 x13).bind fun x19=>
     some (⟨(⟨y10.p.AF,y10.p.AH,y10.p.AE,y10.p.AG⟩:AL),y10.AS,y10.An,y10.Am,x19⟩:Aj)
theorem aJW (AA:Nat)  (a0:AL) (r:Aj) (H:xC AA a0=some r):FnS Tryz.prog 59 [fSt gL a0] [] (aU uD r) (fun _=>[]):=by
 unfold xC at H
 refine bS Tryz.func59 rfl Tryz.ntmps59 rfl (fun β=>?_)
 refine Z1 ?_
 refine Tn (cA rfl hh bT) fun b1=>?_
 refine Z4 ?_
 refine Yy (fK (ψs:=[fSl aK a0.AF,fSl aN a0.AH,fSl aB a0.AE,fI a0.AG,fEq (.slice none 0 0),fEq (.slice none 0 0),fEq (.slice none 0 0),aH false]) rfl aIK rfl (bL.cons (has rfl) bT bL.nil) rfl) ?_
 refine Tn (cA rfl hh bT) fun b2=>?_
 refine Z2 ?_
 refine aL ?_
 refine I6 H (fun c1 H=>?_) fun c1 H=>?_
 refine Z12 ?_
 refine Z5 ?_
 refine cQ (φs':=[fSl aK a0.AF,fSl aN a0.AH,fSl aB a0.AE,fI a0.AG,fEq (.slice none 0 0),fEq (.slice none 0 0),fEq (.slice none 0 0),aH true]) a1W rfl rfl (has rfl) (has rfl) (aG a1W) (sz rfl) rfl rfl ?_
 refine Z6 ?_
 refine dI (φ:=aU uD (⟨a0,[],[],[],true⟩:Aj)) (v:=ptr b2) [2,10,3,27,28,30] (iH (aJ.cons Ent.rfl (aJ.cons Ent.rfl (aJ.cons Ent.rfl (aJ.cons Ent.rfl (aJ.cons fF (aJ.cons fF (aJ.cons fF (aJ.cons Ent.rfl aJ.nil))))))))) fz ?_
 refine dH ?_
 cases H
 refine aF [] (by decide) ?_
 exact To
 refine I6 H (fun c2 H=>?_) fun c2 H=>?_
 refine Z11 ?_
 refine cQ (φs':=[fSl aK a0.AF,fSl aN a0.AH,fSl aB a0.AE,fI a0.AG,fEq (.slice none 0 0),fEq (.slice none 0 0),fEq (.slice none 0 0),aH true]) a1W rfl rfl (has rfl) (has rfl) (aG a1W) (sz rfl) rfl rfl ?_
 refine Z6 ?_
 refine dI (φ:=aU uD (⟨a0,[],[],[],true⟩:Aj)) (v:=ptr b2) [2,10,3,27,28,30] (iH (aJ.cons Ent.rfl (aJ.cons Ent.rfl (aJ.cons Ent.rfl (aJ.cons Ent.rfl (aJ.cons fF (aJ.cons fF (aJ.cons fF (aJ.cons Ent.rfl aJ.nil))))))))) fz ?_
 refine dH ?_
 cases H
 refine aF [] (by decide) ?_
 exact To
 refine I6 H (fun c3 H=>?_) fun c3 H=>?_
 refine Z5 ?_
 refine cQ (φs':=[fSl aK a0.AF,fSl aN a0.AH,fSl aB a0.AE,fI a0.AG,fEq (.slice none 0 0),fEq (.slice none 0 0),fEq (.slice none 0 0),aH true]) a1W rfl rfl (has rfl) (has rfl) (aG a1W) (sz rfl) rfl rfl ?_
 refine Z6 ?_
 refine dI (φ:=aU uD (⟨a0,[],[],[],true⟩:Aj)) (v:=ptr b2) [2,10,3,27,28,30] (iH (aJ.cons Ent.rfl (aJ.cons Ent.rfl (aJ.cons Ent.rfl (aJ.cons Ent.rfl (aJ.cons fF (aJ.cons fF (aJ.cons fF (aJ.cons Ent.rfl aJ.nil))))))))) fz ?_
 refine dH ?_
 cases H
 refine aF [] (by decide) ?_
 exact To
 revert H;refine B3z fun o1 H Hr1=>?_
 refine aQ (fun i=>o1=i) (fun i=>[(1,fEq (ptr b1)),(3,fEq (ptr b2))]) (fun i=>[aA b2 135 [fSl aK a0.AF,fSl aN a0.AH,fSl aB a0.AE,fI a0.AG,fEq (.slice none 0 0),fEq (.slice none 0 0),fEq (.slice none 0 0),aH i],aA b1 37 [fSl aK a0.AF,fSl aN a0.AH,fSl aB a0.AE,fI a0.AG]]) ?_ ?_
 refine Z4 ?_
 refine Th (ι:=Int × Bool) (fun i=>kU AA a0 i.1 i.2.1 i.2.2=_) (fun i=>[(1,fEq (ptr b1)),(3,fEq (ptr b2)),(4,fI i.2.1)]) (fun i=>[aA b2 135 [fSl aK a0.AF,fSl aN a0.AH,fSl aB a0.AE,fI a0.AG,fEq (.slice none 0 0),fEq (.slice none 0 0),fEq (.slice none 0 0),aH i.2.2],aA b1 37 [fSl aK a0.AF,fSl aN a0.AH,fSl aB a0.AE,fI a0.AG]]) (AA,0,false) H (fun _ h=>nomatch h) ?_
 clear H;rintro k1 ⟨x4,x5⟩ H;dsimp only at H ⊢;rw [kU]at H
 refine aL ?_
 revert H;refine I7z (fun c4 H=>?_) fun c4 H=>?_
 revert H;refine B3z fun o2 H Hr2=>?_
 refine aQ (fun i=>o2=i) (fun i=>[(1,fEq (ptr b1)),(3,fEq (ptr b2)),(4,fI x4)]) (fun i=>[aA b2 135 [fSl aK a0.AF,fSl aN a0.AH,fSl aB a0.AE,fI a0.AG,fEq (.slice none 0 0),fEq (.slice none 0 0),fEq (.slice none 0 0),aH i],aA b1 37 [fSl aK a0.AF,fSl aN a0.AH,fSl aB a0.AE,fI a0.AG]]) ?_ ?_
 refine Z1 ?_
 revert H;refine cs (fun c5 H=>?_) fun c5 H=>?_
 apply bG (ods:=[_,_,_,_,_,_,_,_,_,_,_,_,_,_,_,_,_,_,_,_,_,_,_,_,_,_,_,_,_,_,_,_,_,_,_]) 35 0 2 bF rfl rfl rfl
 refine ND ?_
 refine M8 ?_
 intros
 refine M8 ?_
 intros
 refine M2 ?_
 intros
 refine eV (od:=odS) rfl (⟨_,_,_,_,rfl,rfl,rfl,nu⟩) rfl (fun _=>?_)
 refine eV (od:=odS) rfl (⟨_,_,_,_,rfl,rfl,rfl,nu⟩) rfl (fun _=>?_)
 refine eV (od:=odS) rfl (⟨_,_,_,_,rfl,rfl,rfl,nu⟩) rfl (fun _=>?_)
 refine eV (od:=odS) rfl (⟨_,_,_,_,rfl,rfl,rfl,nu⟩) rfl (fun _=>?_)
 refine eV (od:=odS) rfl (⟨_,_,_,_,rfl,rfl,rfl,nu⟩) rfl (fun _=>?_)
 refine eV (od:=odS) rfl (⟨_,_,_,_,rfl,rfl,rfl,nu⟩) rfl (fun _=>?_)
 refine eV (od:=odS) rfl (⟨_,_,_,_,rfl,rfl,rfl,nu⟩) rfl (fun _=>?_)
 refine eV (od:=odS) rfl (⟨_,_,_,_,rfl,rfl,rfl,nu⟩) rfl (fun _=>?_)
 refine eV (od:=odS) rfl (⟨_,_,_,_,rfl,rfl,rfl,nu⟩) rfl (fun _=>?_)
 refine eV (od:=odS) rfl (⟨_,_,_,_,rfl,rfl,rfl,nu⟩) rfl (fun _=>?_)
 refine eV (od:=odS) rfl (⟨_,_,_,_,rfl,rfl,rfl,nu⟩) rfl (fun _=>?_)
 refine eV (od:=odS) rfl (⟨_,_,_,_,rfl,rfl,rfl,nu⟩) rfl (fun _=>?_)
 refine M4 ?_
 intros
 refine tC (od:=odC [0] true (eG) [aA b2 135 [fSl aK a0.AF,fSl aN a0.AH,fSl aB a0.AE,fI a0.AG,fEq (.slice none 0 0),fEq (.slice none 0 0),fEq (.slice none 0 0),aH true]]) (p:=0) (φs':=[fSl aK a0.AF,fSl aN a0.AH,fSl aB a0.AE,fI a0.AG,fEq (.slice none 0 0),fEq (.slice none 0 0),fEq (.slice none 0 0),aH true]) rfl (fun _=>rfl) (fun _=>rfl) a1W rfl rfl rfl (has rfl) (has rfl) (aG a1W) (sz rfl) rfl rfl (fun _=>?_)
 refine Z4 ?_
 exact Tm (true) (ij H)
 exact fk
 kernel_rfl
 revert H;refine bs fun y1 h1 H=>?_
 revert H;refine bs fun y2 h2 H=>?_
 revert H;refine cs (fun c6 H=>?_) fun c6 H=>?_
 apply bG (ods:=[_,_,_,_,_,_,_,_,_,_,_,_,_,_,_,_,_,_,_,_,_,_,_,_,_,_,_,_,_,_,_,_,_,_,_]) 35 0 2 bF rfl rfl rfl
 refine ND ?_
 refine M8 ?_
 intros
 refine M1 ?_
 intros
 refine Mg c5 (eH rfl hh hh (el rfl) h1) fun _=>?_
 refine M1 ?_
 intros
 refine Nc (aCc _ _ _ h2) fun _=>?_
 refine M6 ?_
 intros
 refine eV (od:=odS) rfl (⟨_,_,_,_,rfl,rfl,rfl,nu⟩) rfl (fun _=>?_)
 refine eV (od:=odS) rfl (⟨_,_,_,_,rfl,rfl,rfl,nu⟩) rfl (fun _=>?_)
 refine eV (od:=odS) rfl (⟨_,_,_,_,rfl,rfl,rfl,nu⟩) rfl (fun _=>?_)
 refine eV (od:=odS) rfl (⟨_,_,_,_,rfl,rfl,rfl,nu⟩) rfl (fun _=>?_)
 refine eV (od:=odS) rfl (⟨_,_,_,_,rfl,rfl,rfl,nu⟩) rfl (fun _=>?_)
 refine eV (od:=odS) rfl (⟨_,_,_,_,rfl,rfl,rfl,nu⟩) rfl (fun _=>?_)
 refine eV (od:=odS) rfl (⟨_,_,_,_,rfl,rfl,rfl,nu⟩) rfl (fun _=>?_)
 refine eV (od:=odS) rfl (⟨_,_,_,_,rfl,rfl,rfl,nu⟩) rfl (fun _=>?_)
 refine eV (od:=odS) rfl (⟨_,_,_,_,rfl,rfl,rfl,nu⟩) rfl (fun _=>?_)
 refine eV (od:=odS) rfl (⟨_,_,_,_,rfl,rfl,rfl,nu⟩) rfl (fun _=>?_)
 refine eV (od:=odS) rfl (⟨_,_,_,_,rfl,rfl,rfl,nu⟩) rfl (fun _=>?_)
 refine eV (od:=odS) rfl (⟨_,_,_,_,rfl,rfl,rfl,nu⟩) rfl (fun _=>?_)
 refine M4 ?_
 intros
 refine tC (od:=odC [0] true (eG) [aA b2 135 [fSl aK a0.AF,fSl aN a0.AH,fSl aB a0.AE,fI a0.AG,fEq (.slice none 0 0),fEq (.slice none 0 0),fEq (.slice none 0 0),aH true]]) (p:=0) (φs':=[fSl aK a0.AF,fSl aN a0.AH,fSl aB a0.AE,fI a0.AG,fEq (.slice none 0 0),fEq (.slice none 0 0),fEq (.slice none 0 0),aH true]) rfl (fun _=>rfl) (fun _=>rfl) a1W rfl rfl rfl (has rfl) (has rfl) (aG a1W) (sz rfl) rfl rfl (fun _=>?_)
 refine Z4 ?_
 exact Tm (true) (ij H)
 exact fk
 kernel_rfl
 revert H;refine is (fun c7 H=>?_) fun c7 H=>?_
 revert H;refine bs fun y3 h3 H=>?_
 revert H;refine bs fun z1 h4 H=>?_
 revert H;refine bs fun y4 h5 H=>?_
 apply bG (ods:=[_,_,_,_,_,_,_,_,_,_,_,_,_,_,_,_,_,_,_,_,_,_,_,_,_,_,_,_,_,_,_,_,_,_,_]) 35 0 2 bF rfl rfl rfl
 refine ND ?_
 refine M8 ?_
 intros
 refine M1 ?_
 intros
 refine Mg c5 (eH rfl hh hh (el rfl) h1) fun _=>?_
 refine M1 ?_
 intros
 refine Nc (aCc _ _ _ h2) fun _=>?_
 refine M8 ?_
 intros
 refine M8 ?_
 intros
 refine M1 ?_
 intros
 refine Mg c7 (o_leqS rfl hh hh) fun _=>?_
 refine M4 ?_
 intros
 refine tC (od:=odC [0] true (eG) [aA b2 135 [fSl aK a0.AF,fSl aN a0.AH,fSl aB a0.AE,fI a0.AG,fEq (.slice none 0 0),fEq (.slice none 0 0),fEq (.slice none 0 0),aH (sle y3 y4)]]) (p:=0) (φs':=[fSl aK a0.AF,fSl aN a0.AH,fSl aB a0.AE,fI a0.AG,fEq (.slice none 0 0),fEq (.slice none 0 0),fEq (.slice none 0 0),aH (sle y3 y4)]) rfl (fun _=>rfl) (fun _=>rfl) a1W rfl rfl rfl (has rfl) (has rfl) (aG a1W) (sz rfl) rfl rfl (fun _=>?_)
 refine Z4 ?_
 exact Tm (sle y3 y4) (ij H)
 exact fk
 kernel_rfl
 apply bG (ods:=[_,_,_,_,_,_,_,_,_,_,_,_,_,_,_,_,_,_,_,_,_,_,_,_,_,_,_,_,_,_,_,_,_,_,_]) 35 0 2 bF rfl rfl rfl
 refine ND ?_
 refine M8 ?_
 intros
 refine M1 ?_
 intros
 refine Mg c5 (eH rfl hh hh (el rfl) h1) fun _=>?_
 refine M1 ?_
 intros
 refine Nc (aCc _ _ _ h2) fun _=>?_
 refine M8 ?_
 intros
 refine M8 ?_
 intros
 refine M6 ?_
 intros
 refine tC (od:=odC [0] true (eG) [aA b2 135 [fSl aK a0.AF,fSl aN a0.AH,fSl aB a0.AE,fI a0.AG,fEq (.slice none 0 0),fEq (.slice none 0 0),fEq (.slice none 0 0),aH false]]) (p:=0) (φs':=[fSl aK a0.AF,fSl aN a0.AH,fSl aB a0.AE,fI a0.AG,fEq (.slice none 0 0),fEq (.slice none 0 0),fEq (.slice none 0 0),aH false]) rfl (fun _=>rfl) (fun _=>rfl) a1W rfl rfl rfl (has rfl) (has rfl) (aG a1W) (sz rfl) rfl rfl (fun _=>?_)
 refine Z4 ?_
 exact Tm (false) (ij H)
 exact fk
 kernel_rfl
 rintro x6 hi;subst o2;replace H:=Hr2;clear Hr2;try dsimp only at H ⊢
 revert H;refine B2z fun z2 h6 H=>?_
 refine Z3 ?_
 exact Tm ((k1,z2,x6)) ⟨H,ls⟩
 refine Z6 ?_
 exact Tm (x5) (ij H)
 rintro x1 hi;subst o1;replace H:=Hr1;clear Hr1;try dsimp only at H ⊢
 revert H;refine bs fun o3 H Hr3=>?_
 refine aQ (fun i=>o3=i) (fun i=>[(1,fEq (ptr b1)),(3,fEq (ptr b2))]) (fun i=>[aA b2 135 [fSl aK a0.AF,fSl aN a0.AH,fSl aB a0.AE,fI a0.AG,fEq (.slice none 0 0),fEq (.slice none 0 0),fEq (.slice none 0 0),aH i],aA b1 37 [fSl aK a0.AF,fSl aN a0.AH,fSl aB a0.AE,fI a0.AG]]) ?_ ?_
 refine Z4 ?_
 refine Th (ι:=Int × Bool) (fun i=>mM AA a0 i.1 i.2.1 i.2.2=_) (fun i=>[(1,fEq (ptr b1)),(3,fEq (ptr b2)),(5,fI i.2.1)]) (fun i=>[aA b2 135 [fSl aK a0.AF,fSl aN a0.AH,fSl aB a0.AE,fI a0.AG,fEq (.slice none 0 0),fEq (.slice none 0 0),fEq (.slice none 0 0),aH i.2.2],aA b1 37 [fSl aK a0.AF,fSl aN a0.AH,fSl aB a0.AE,fI a0.AG]]) (AA,0,x1) H (fun _ h=>nomatch h) ?_
 clear H;rintro k2 ⟨x10,x11⟩ H;dsimp only at H ⊢;rw [mM]at H
 refine aL ?_
 revert H;refine I7z (fun c8 H=>?_) fun c8 H=>?_
 revert H;refine B3z fun o4 H Hr4=>?_
 refine aQ (fun i=>o4=i) (fun i=>[(1,fEq (ptr b1)),(3,fEq (ptr b2)),(5,fI x10)]) (fun i=>[aA b2 135 [fSl aK a0.AF,fSl aN a0.AH,fSl aB a0.AE,fI a0.AG,fEq (.slice none 0 0),fEq (.slice none 0 0),fEq (.slice none 0 0),aH i],aA b1 37 [fSl aK a0.AF,fSl aN a0.AH,fSl aB a0.AE,fI a0.AG]]) ?_ ?_
 refine Z8 ?_
 revert H;refine cs (fun c9 H=>?_) fun c9 H=>?_
 refine Z10 ?_
 refine cQ (φs':=[fSl aK a0.AF,fSl aN a0.AH,fSl aB a0.AE,fI a0.AG,fEq (.slice none 0 0),fEq (.slice none 0 0),fEq (.slice none 0 0),aH true]) a1W rfl rfl (has rfl) (has rfl) (aG a1W) (sz rfl) rfl rfl ?_
 refine Z3 ?_
 exact Tm (true) (ij H)
 revert H;refine B3z fun y5 h7 H=>?_
 revert H;refine B2z fun y6 h8 H=>?_
 refine Tc (aIy _ _ _ h8) ?_
 refine Z4 ?_
 refine cQ (φs':=[fSl aK a0.AF,fSl aN a0.AH,fSl aB a0.AE,fI a0.AG,fEq (.slice none 0 0),fEq (.slice none 0 0),fEq (.slice none 0 0),aH (!y6)]) a1W rfl rfl (has rfl) (has rfl) (aG a1W) (sz rfl) rfl rfl ?_
 refine Z3 ?_
 exact Tm (!y6) (ij H)
 rintro x12 hi;subst o4;replace H:=Hr4;clear Hr4;try dsimp only at H ⊢
 revert H;refine B2z fun z3 h9 H=>?_
 refine Z3 ?_
 exact Tm ((k2,z3,x12)) ⟨H,ls⟩
 refine Z6 ?_
 exact Tm (x11) (ij H)
 rintro x7 hi;subst o3;replace H:=Hr3;clear Hr3;try dsimp only at H ⊢
 refine aL ?_
 refine bz H fun y7 h10 H=>?_
 refine bz H fun y8 h11 H=>?_
 refine bz H fun y9 h12 H=>?_
 apply bG (ods:=[_,_,_,_,_,_,_,_,_,_,_,_,_,_,_,_,_,_,_,_,_,_,_,_]) 24 3 5 bF rfl rfl rfl
 refine ND ?_
 refine M6 ?_
 intros
 refine Mn 2 (fun b3=> .slice (some ⟨b3,0,none⟩) y7.length y7.length) (fun b3=>aD (.slice (some ⟨b3,0,none⟩) y7.length y7.length) 3 tI y7) rfl (oY (t:=tI) (z:=0) rfl (has rfl) (et rfl) rfl sM rfl h10) (fun b3 u1=>?_)
 refine M3 ?_
 intros
 refine Mn 3 (fun b4=> .slice (some ⟨b4,0,none⟩) y8.length y8.length) (fun b4=>aD (.slice (some ⟨b4,0,none⟩) y8.length y8.length) 3 tI y8) rfl (oY (t:=tI) (z:=0) rfl (has rfl) (et rfl) rfl sM rfl h11) (fun b4 u2=>?_)
 refine M3 ?_
 intros
 refine Mn 4 (fun b5=> .slice (some ⟨b5,0,none⟩) y9.length y9.length) (fun b5=>aD (.slice (some ⟨b5,0,none⟩) y9.length y9.length) 3 tI y9) rfl (oY (t:=tI) (z:=0) rfl (has rfl) (et rfl) rfl sM rfl h12) (fun b5 u3=>?_)
 refine M2 ?_
 intros
 refine tC (od:=od1 6 [0] true (fun b3 _=>eG) (fun b3 _=>[aA b2 135 [fSl aK a0.AF,fSl aN a0.AH,fSl aB a0.AE,fI a0.AG,fEq (.slice (some ⟨b3,0,none⟩) y7.length y7.length),fEq (.slice none 0 0),fEq (.slice none 0 0),aH x7]])) (p:=0) (φs':=[fSl aK a0.AF,fSl aN a0.AH,fSl aB a0.AE,fI a0.AG,fEq (.slice (some ⟨b3,0,none⟩) y7.length y7.length),fEq (.slice none 0 0),fEq (.slice none 0 0),aH x7]) rfl (fun _=>rfl) (fun _=>rfl) a1W rfl rfl rfl (has rfl) (has rfl) (aG a1W) (sz rfl) rfl rfl (fun _=>?_)
 refine M2 ?_
 intros
 refine tC (od:=od2 6 10 [0] true (fun b3 _ b4 _=>eG) (fun b3 _ b4 _=>[aA b2 135 [fSl aK a0.AF,fSl aN a0.AH,fSl aB a0.AE,fI a0.AG,fEq (.slice (some ⟨b3,0,none⟩) y7.length y7.length),fEq (.slice (some ⟨b4,0,none⟩) y8.length y8.length),fEq (.slice none 0 0),aH x7]])) (p:=0) (φs':=[fSl aK a0.AF,fSl aN a0.AH,fSl aB a0.AE,fI a0.AG,fEq (.slice (some ⟨b3,0,none⟩) y7.length y7.length),fEq (.slice (some ⟨b4,0,none⟩) y8.length y8.length),fEq (.slice none 0 0),aH x7]) rfl (fun _=>rfl) (fun _=>rfl) a1W rfl rfl rfl (has rfl) (has rfl) (aG a1W) (sz rfl) rfl rfl (fun _=>?_)
 refine M2 ?_
 intros
 refine tC (od:=od3 6 10 14 [0] true (fun b3 _ b4 _ b5 _=>eG) (fun b3 _ b4 _ b5 _=>[aA b2 135 [fSl aK a0.AF,fSl aN a0.AH,fSl aB a0.AE,fI a0.AG,fEq (.slice (some ⟨b3,0,none⟩) y7.length y7.length),fEq (.slice (some ⟨b4,0,none⟩) y8.length y8.length),fEq (.slice (some ⟨b5,0,none⟩) y9.length y9.length),aH x7]])) (p:=0) (φs':=[fSl aK a0.AF,fSl aN a0.AH,fSl aB a0.AE,fI a0.AG,fEq (.slice (some ⟨b3,0,none⟩) y7.length y7.length),fEq (.slice (some ⟨b4,0,none⟩) y8.length y8.length),fEq (.slice (some ⟨b5,0,none⟩) y9.length y9.length),aH x7]) rfl (fun _=>rfl) (fun _=>rfl) a1W rfl rfl rfl (has rfl) (has rfl) (aG a1W) (sz rfl) rfl rfl (fun _=>?_)
 refine Z1 ?_
 generalize (Value.slice (some ⟨b3,0,none⟩) _ _)=v1
 refine rc 2 fun _=>?_
 generalize (Value.slice (some ⟨b4,0,none⟩) _ _)=v2
 refine rc 3 fun _=>?_
 generalize (Value.slice (some ⟨b5,0,none⟩) _ _)=v3
 refine rc 4 fun _=>?_
 refine Z1 ?_
 refine aL ?_
 refine Z6 ?_
 refine cz H (fun c10 H=>?_) fun c10 H=>?_
 refine Z6 ?_
 refine aM ?_
 refine dI (φ:=fSl tI y7) (v:=v1) [101] eT fz ?_
 refine fP (φs':=[fSl aK a0.AF,fSl aN a0.AH,fSl aB a0.AE,fI a0.AG,fSl tI y7,fEq v2,fEq v3,aH x7]) (i:=4) rfl rfl ?_
 refine dH ?_
 refine aM ?_
 refine dI (φ:=fSl tI y8) (v:=v2) [105] eT fz ?_
 refine fP (φs':=[fSl aK a0.AF,fSl aN a0.AH,fSl aB a0.AE,fI a0.AG,fSl tI y7,fSl tI y8,fEq v3,aH x7]) (i:=5) rfl rfl ?_
 refine dH ?_
 refine aM ?_
 refine dI (φ:=fSl tI y9) (v:=v3) [109] eT fz ?_
 refine fP (φs':=[fSl aK a0.AF,fSl aN a0.AH,fSl aB a0.AE,fI a0.AG,fSl tI y7,fSl tI y8,fSl tI y9,aH x7]) (i:=6) rfl rfl ?_
 refine dH ?_
 refine dI (φ:=aU uD (⟨a0,y7,y8,y9,x7⟩:Aj)) (v:=ptr b2) [3,95,96,97,110,112,114,116,117,120,2] (iH aJ.rfl) fz ?_
 refine dH ?_
 cases H
 refine aF [] (by decide) ?_
 exact To
 refine Z10 ?_
 refine aO ?_
 refine aO ?_
 refine aO ?_
 refine bA ?_
 refine fX ?_
 refine bz H fun y10 h13 H=>?_
 refine Tc (aKq _ _ _ _ _ _ h13) ?_
 refine tA (fun v4 v5 v6=>?_)
 refine rc 1 fun _=>?_
 refine rc 2 fun _=>?_
 refine rc 3 fun _=>?_
 revert H;refine B1z fun o5 H Hr5=>?_
 refine aQ (fun i=>o5=i) (fun i=>[(3,fEq (ptr b2))]) (fun i=>[aA b2 135 [fSl aK y10.p.AF,fSl aN y10.p.AH,fSl aB y10.p.AE,fI y10.p.AG,fEq v4,fEq v5,fEq v6,aH i],aA b1 37 [fSl aK a0.AF,fSl aN a0.AH,fSl aB a0.AE,fI a0.AG],aD v4 3 tI y10.AS,aD v5 3 tI y10.An,aD v6 3 tI y10.Am]) ?_ ?_
 refine Z4 ?_
 refine aF [0,4,1,2,3] (by decide) ?_
 refine Th (ι:=Int × Bool) (fun i=>mE y10 i.1 i.2.1 i.2.2=_) (fun i=>[(3,fEq (ptr b2)),(6,fI i.2.1)]) (fun i=>[aA b2 135 [fSl aK y10.p.AF,fSl aN y10.p.AH,fSl aB y10.p.AE,fI y10.p.AG,fEq v4,fEq v5,fEq v6,aH i.2.2],aA b1 37 [fSl aK a0.AF,fSl aN a0.AH,fSl aB a0.AE,fI a0.AG],aD v4 3 tI y10.AS,aD v5 3 tI y10.An,aD v6 3 tI y10.Am]) (AA,0,y10.bad) H (fun _ h=>nomatch h) ?_
 clear H;rintro k3 ⟨x16,x17⟩ H;dsimp only at H ⊢;rw [mE]at H
 refine aL ?_
 revert H;refine I9z (fun c11 H=>?_) fun c11 H=>?_
 revert H;refine B3z fun o6 H Hr6=>?_
 refine aQ (fun i=>o6=i) (fun i=>[(3,fEq (ptr b2)),(6,fI x16)]) (fun i=>[aA b2 135 [fSl aK y10.p.AF,fSl aN y10.p.AH,fSl aB y10.p.AE,fI y10.p.AG,fEq v4,fEq v5,fEq v6,aH i],aA b1 37 [fSl aK a0.AF,fSl aN a0.AH,fSl aB a0.AE,fI a0.AG],aD v4 3 tI y10.AS,aD v5 3 tI y10.An,aD v6 3 tI y10.Am]) ?_ ?_
 refine Z8 ?_
 revert H;refine cs (fun c12 H=>?_) fun c12 H=>?_
 refine Z11 ?_
 refine cQ (φs':=[fSl aK y10.p.AF,fSl aN y10.p.AH,fSl aB y10.p.AE,fI y10.p.AG,fEq v4,fEq v5,fEq v6,aH true]) a1W rfl rfl (has rfl) (has rfl) (aG a1W) (sz rfl) rfl rfl ?_
 refine Z3 ?_
 exact Tm (true) (ij H)
 revert H;refine B5z fun y11 h14 H=>?_
 refine Z1 ?_
 refine Yh 3 rfl c12 (jE rfl rfl hh (sc rfl) (idx_get h14) rfl) ?_
 refine Z4 ?_
 refine cQ (φs':=[fSl aK y10.p.AF,fSl aN y10.p.AH,fSl aB y10.p.AE,fI y10.p.AG,fEq v4,fEq v5,fEq v6,aH (decide (y11=0))]) a1W rfl rfl (has rfl) (has rfl) (aG a1W) (sz rfl) rfl rfl ?_
 refine Z3 ?_
 exact Tm (decide (y11=0)) (ij H)
 rintro x18 hi;subst o6;replace H:=Hr6;clear Hr6;try dsimp only at H ⊢
 revert H;refine B2z fun z4 h15 H=>?_
 refine Z3 ?_
 exact Tm ((k3,z4,x18)) ⟨H,ls⟩
 refine Z6 ?_
 exact Tm (x17) (ij H)
 rintro x13 hi;subst o5;replace H:=Hr5;clear Hr5;try dsimp only at H ⊢
 revert H;refine bs fun o7 H Hr7=>?_
 refine aQ (fun i=>o7=i) (fun i=>[(3,fEq (ptr b2))]) (fun i=>[aA b2 135 [fSl aK y10.p.AF,fSl aN y10.p.AH,fSl aB y10.p.AE,fI y10.p.AG,fEq v4,fEq v5,fEq v6,aH i],aA b1 37 [fSl aK a0.AF,fSl aN a0.AH,fSl aB a0.AE,fI a0.AG],aD v4 3 tI y10.AS,aD v5 3 tI y10.An,aD v6 3 tI y10.Am]) ?_ ?_
 refine Z4 ?_
 refine Th (ι:=Int × Bool) (fun i=>mH y10 i.1 i.2.1 i.2.2=_) (fun i=>[(3,fEq (ptr b2)),(7,fI i.2.1)]) (fun i=>[aA b2 135 [fSl aK y10.p.AF,fSl aN y10.p.AH,fSl aB y10.p.AE,fI y10.p.AG,fEq v4,fEq v5,fEq v6,aH i.2.2],aA b1 37 [fSl aK a0.AF,fSl aN a0.AH,fSl aB a0.AE,fI a0.AG],aD v4 3 tI y10.AS,aD v5 3 tI y10.An,aD v6 3 tI y10.Am]) (AA,0,x13) H (fun _ h=>nomatch h) ?_
 clear H;rintro k4 ⟨x22,x23⟩ H;dsimp only at H ⊢;rw [mH]at H
 refine aL ?_
 revert H;refine I9z (fun c13 H=>?_) fun c13 H=>?_
 revert H;refine B3z fun o8 H Hr8=>?_
 refine aQ (fun i=>o8=i) (fun i=>[(3,fEq (ptr b2)),(7,fI x22)]) (fun i=>[aA b2 135 [fSl aK y10.p.AF,fSl aN y10.p.AH,fSl aB y10.p.AE,fI y10.p.AG,fEq v4,fEq v5,fEq v6,aH i],aA b1 37 [fSl aK a0.AF,fSl aN a0.AH,fSl aB a0.AE,fI a0.AG],aD v4 3 tI y10.AS,aD v5 3 tI y10.An,aD v6 3 tI y10.Am]) ?_ ?_
 refine Z8 ?_
 revert H;refine cs (fun c14 H=>?_) fun c14 H=>?_
 refine Z11 ?_
 refine cQ (φs':=[fSl aK y10.p.AF,fSl aN y10.p.AH,fSl aB y10.p.AE,fI y10.p.AG,fEq v4,fEq v5,fEq v6,aH true]) a1W rfl rfl (has rfl) (has rfl) (aG a1W) (sz rfl) rfl rfl ?_
 refine Z3 ?_
 exact Tm (true) (ij H)
 revert H;refine B5z fun y12 h16 H=>?_
 refine Z1 ?_
 refine Yh 4 rfl c14 (jE rfl rfl hh (sc rfl) (idx_get h16) rfl) ?_
 refine Z4 ?_
 refine cQ (φs':=[fSl aK y10.p.AF,fSl aN y10.p.AH,fSl aB y10.p.AE,fI y10.p.AG,fEq v4,fEq v5,fEq v6,aH (decide (y12=0))]) a1W rfl rfl (has rfl) (has rfl) (aG a1W) (sz rfl) rfl rfl ?_
 refine Z3 ?_
 exact Tm (decide (y12=0)) (ij H)
 rintro x24 hi;subst o8;replace H:=Hr8;clear Hr8;try dsimp only at H ⊢
 revert H;refine B2z fun z5 h17 H=>?_
 refine Z3 ?_
 exact Tm ((k4,z5,x24)) ⟨H,ls⟩
 refine Z6 ?_
 exact Tm (x23) (ij H)
 rintro x19 hi;subst o7;replace H:=Hr7;clear Hr7;try dsimp only at H ⊢
 refine Z5 ?_
 refine aM ?_
 refine dI (φ:=fSl tI y10.AS) (v:=v4) [] eT (fun _ h=>nomatch h) ?_
 refine fP (φs':=[fSl aK y10.p.AF,fSl aN y10.p.AH,fSl aB y10.p.AE,fI y10.p.AG,fSl tI y10.AS,fEq v5,fEq v6,aH x19]) (i:=4) rfl rfl ?_
 refine dH ?_
 refine aM ?_
 refine dI (φ:=fSl tI y10.An) (v:=v5) [] eT (fun _ h=>nomatch h) ?_
 refine fP (φs':=[fSl aK y10.p.AF,fSl aN y10.p.AH,fSl aB y10.p.AE,fI y10.p.AG,fSl tI y10.AS,fSl tI y10.An,fEq v6,aH x19]) (i:=5) rfl rfl ?_
 refine dH ?_
 refine aM ?_
 refine dI (φ:=fSl tI y10.Am) (v:=v6) [] eT (fun _ h=>nomatch h) ?_
 refine fP (φs':=[fSl aK y10.p.AF,fSl aN y10.p.AH,fSl aB y10.p.AE,fI y10.p.AG,fSl tI y10.AS,fSl tI y10.An,fSl tI y10.Am,aH x19]) (i:=6) rfl rfl ?_
 refine dH ?_
 refine dI (φ:=aU uD (⟨y10.p,y10.AS,y10.An,y10.Am,x19⟩:Aj)) (v:=ptr b2) [3,180,2] (iH aJ.rfl) fz ?_
 refine dH ?_
 cases H
 refine aF [] (by decide) ?_
 exact To
 exact fk
 kernel_rfl
open Go.SX Go.SW Go.Dt
def aA5 (a0:AN) (a1:AN):Nat->Int->Option ((Unit) ⊕ (Bool))
| 0,_=>none
| k+1,x2=>
 if x2<(a0.AQ.length:Int)then
  (idx a0.AQ x2).bind fun y1=>
  (idx a1.AQ x2).bind fun y2=>
  bif decide (y1.At=y2.At) && decide (y1.Au=y2.Au)then
   (chk (x2+1)).bind fun z1=>
   aA5 a0 a1 k z1
  else
   (some false).bind fun r=>some (Sum.inr r)
 else
  some (Sum.inl ())
def aBh (a0:AN) (a1:AN):Nat->Int->Option ((Unit) ⊕ (Bool))
| 0,_=>none
| k+1,x4=>
 if x4<(a0.AP.length:Int)then
  (idx a0.AP x4).bind fun y3=>
  (idx a1.AP x4).bind fun y4=>
  bif decide (y3.In=y4.In) && decide (y3.AU=y4.AU)then
   (chk (x4+1)).bind fun z2=>
   aBh a0 a1 k z2
  else
   (some false).bind fun r=>some (Sum.inr r)
 else
  some (Sum.inl ())
def aAs (y5:Al) (y6:Al):Nat->Int->Option ((Unit) ⊕ ((Unit) ⊕ (Bool)))
| 0,_=>none
| k+1,x8=>
 if x8<(y5.AZ.length:Int)then
  (idx y5.AZ x8).bind fun y7=>
  (idx y6.AZ x8).bind fun y8=>
  if y7≠y8 then
   ((some false).bind fun r=>some (Sum.inr r)).bind fun r=>some (Sum.inr r)
  else
   (chk (x8+1)).bind fun z3=>
   aAs y5 y6 k z3
 else
  some (Sum.inl ())
def aAn (AA:Nat) (a0:AN) (a1:AN):Nat->Int->Option ((Unit) ⊕ (Bool))
| 0,_=>none
| k+1,x6=>
 if x6<(a0.AO.length:Int)then
  ((idx a0.AO x6).bind fun y5=>
  (idx a1.AO x6).bind fun y6=>
  if y5.At≠y6.At then
   ((some false).bind fun r=>some (Sum.inr r)).bind fun r=>some (Sum.inr r)
  else
   if y5.AU≠y6.AU then
    ((some false).bind fun r=>some (Sum.inr r)).bind fun r=>some (Sum.inr r)
   else
    if (y5.AZ.length:Int)≠(y6.AZ.length:Int)then
     ((some false).bind fun r=>some (Sum.inr r)).bind fun r=>some (Sum.inr r)
    else
     aAs y5 y6 AA 0).bind fun o=>match o with
  | Sum.inr r=>some r
  | Sum.inl _=>
  (chk (x6+1)).bind fun z4=>
  aAn AA a0 a1 k z4
 else
  some (Sum.inl ())
def aBT (AA:Nat) (a0:AN) (a1:AN):Option (Bool):=
 if (a0.AQ.length:Int)≠(a1.AQ.length:Int)then
  some false
 else
  if (a0.AP.length:Int)≠(a1.AP.length:Int)then
   some false
  else
   if (a0.AO.length:Int)≠(a1.AO.length:Int)then
    some false
   else
    (aA5 a0 a1 AA 0).bind fun o=>match o with
    | Sum.inr r=>some r
    | Sum.inl _=>
    (aBh a0 a1 AA 0).bind fun o=>match o with
    | Sum.inr r=>some r
    | Sum.inl _=>
    (aAn AA a0 a1 AA 0).bind fun o=>match o with
    | Sum.inr r=>some r
    | Sum.inl _=>
    some true
theorem aKT (AA:Nat)  (a0:AN) (a1:AN) (r:Bool) (H:aBT AA a0 a1=some r):FnS Tryz.prog 90 [fSt aB a0,fSt aB a1] [] (aH r) (fun _=>[]):=by
 unfold aBT at H
 refine bS Tryz.func90 rfl Tryz.ntmps90 rfl (fun β=>?_)
 refine Z1 ?_
 refine Tn (cA rfl hh bT) fun b1=>?_
 refine Tn (cA rfl hh bT) fun b2=>?_
 refine Z2 ?_
 refine aL ?_
 refine I9 H (fun c1 H=>?_) fun c1 H=>?_
 refine Z12 ?_
 refine Z11 ?_
 cases H
 refine aF [] (by decide) ?_
 exact To
 refine I9 H (fun c2 H=>?_) fun c2 H=>?_
 refine Z12 ?_
 refine Z2 ?_
 cases H
 refine aF [] (by decide) ?_
 exact To
 refine I9 H (fun c3 H=>?_) fun c3 H=>?_
 refine Z5 ?_
 cases H
 refine aF [] (by decide) ?_
 exact To
 revert H;refine B3z fun o1 H Hr1=>?_
 refine aQ (ι:=Unit) (fun i=>o1=Sum.inl ()) (fun i=>[(2,fEq (ptr b1)),(3,fEq (ptr b2))]) (fun i=>[aA b2 63 [fSl bC a1.AQ,fSl bD a1.AP,fSl bB a1.AO],aA b1 63 [fSl bC a0.AQ,fSl bD a0.AP,fSl bB a0.AO]]) ?_ ?_
 refine Z4 ?_
 refine Th (ι:=Int) (fun i=>aA5 a0 a1 i.1 i.2=_) (fun i=>[(2,fEq (ptr b1)),(3,fEq (ptr b2)),(5,fI i.2)]) (fun i=>[aA b2 63 [fSl bC a1.AQ,fSl bD a1.AP,fSl bB a1.AO],aA b1 63 [fSl bC a0.AQ,fSl bD a0.AP,fSl bB a0.AO]]) (AA,0) H (fun _ h=>nomatch h) ?_
 clear H;rintro k1 x2 H;dsimp only at H ⊢;rw [aA5]at H
 refine aL ?_
 revert H;refine I7z (fun c4 H=>?_) fun c4 H=>?_
 refine Z3 ?_
 refine aL ?_
 refine Z1 ?_
 refine aL ?_
 revert H;refine bs fun y1 h1 H=>?_
 revert H;refine bs fun y2 h2 H=>?_
 apply bG (ods:=[_,_,_,_,_,_,_,_,_,_,_]) 11 0 2 bF rfl rfl rfl
 refine ND ?_
 refine M8 ?_
 intros
 refine M2 ?_
 intros
 refine My (aE4 rfl hh hh rfl rfl aKp) fun _=>?_
 refine Z2 ?_
 revert H;refine cs (fun c5 H=>?_) fun c5 H=>?_
 revert H;refine B6z fun z1 h3 H=>?_
 refine Z3 ?_
 exact Tm ((k1,z1)) ⟨H,ls⟩
 revert H;refine hO fun r1 H e1=>?_
 cases e1;cases Hr1
 cases H
 refine aF [] (by decide) ?_
 exact To
 exact fk
 kernel_rfl
 refine Z6 ?_
 exact Tm (()) (ij H)
 rintro i hi;subst o1;replace H:=Hr1;clear Hr1;try dsimp only at H ⊢
 revert H;refine bs fun o2 H Hr2=>?_
 refine aQ (ι:=Unit) (fun i=>o2=Sum.inl ()) (fun i=>[(2,fEq (ptr b1)),(3,fEq (ptr b2))]) (fun i=>[aA b2 63 [fSl bC a1.AQ,fSl bD a1.AP,fSl bB a1.AO],aA b1 63 [fSl bC a0.AQ,fSl bD a0.AP,fSl bB a0.AO]]) ?_ ?_
 refine Z4 ?_
 refine Th (ι:=Int) (fun i=>aBh a0 a1 i.1 i.2=_) (fun i=>[(2,fEq (ptr b1)),(3,fEq (ptr b2)),(6,fI i.2)]) (fun i=>[aA b2 63 [fSl bC a1.AQ,fSl bD a1.AP,fSl bB a1.AO],aA b1 63 [fSl bC a0.AQ,fSl bD a0.AP,fSl bB a0.AO]]) (AA,0) H (fun _ h=>nomatch h) ?_
 clear H;rintro k2 x4 H;dsimp only at H ⊢;rw [aBh]at H
 refine aL ?_
 revert H;refine I7z (fun c6 H=>?_) fun c6 H=>?_
 refine Z3 ?_
 refine aL ?_
 refine Z1 ?_
 refine aL ?_
 revert H;refine bs fun y3 h4 H=>?_
 revert H;refine bs fun y4 h5 H=>?_
 apply bG (ods:=[_,_,_,_,_,_,_,_,_,_,_]) 11 0 2 bF rfl rfl rfl
 refine ND ?_
 refine M8 ?_
 intros
 refine M2 ?_
 intros
 refine My (aE4 rfl hh hh rfl rfl aI7) fun _=>?_
 refine Z2 ?_
 revert H;refine cs (fun c7 H=>?_) fun c7 H=>?_
 revert H;refine B6z fun z2 h6 H=>?_
 refine Z3 ?_
 exact Tm ((k2,z2)) ⟨H,ls⟩
 revert H;refine hO fun r2 H e2=>?_
 cases e2;cases Hr2
 cases H
 refine aF [] (by decide) ?_
 exact To
 exact fk
 kernel_rfl
 refine Z6 ?_
 exact Tm (()) (ij H)
 rintro i hi;subst o2;replace H:=Hr2;clear Hr2;try dsimp only at H ⊢
 revert H;refine bs fun o3 H Hr3=>?_
 refine aQ (ι:=Unit) (fun i=>o3=Sum.inl ()) (fun i=>[]) (fun i=>[aA b2 63 [fSl bC a1.AQ,fSl bD a1.AP,fSl bB a1.AO],aA b1 63 [fSl bC a0.AQ,fSl bD a0.AP,fSl bB a0.AO]]) ?_ ?_
 refine Z4 ?_
 refine Th (ι:=Int) (fun i=>aAn AA a0 a1 i.1 i.2=_) (fun i=>[(2,fEq (ptr b1)),(3,fEq (ptr b2)),(7,fI i.2)]) (fun i=>[aA b2 63 [fSl bC a1.AQ,fSl bD a1.AP,fSl bB a1.AO],aA b1 63 [fSl bC a0.AQ,fSl bD a0.AP,fSl bB a0.AO]]) (AA,0) H (fun _ h=>nomatch h) ?_
 clear H;rintro k3 x6 H;dsimp only at H ⊢;rw [aAn]at H
 refine aL ?_
 revert H;refine I7z (fun c8 H=>?_) fun c8 H=>?_
 revert H;refine B3z fun o4 H Hr4=>?_
 refine aQ (ι:=Unit) (fun i=>o4=Sum.inl ()) (fun i=>[(2,fEq (ptr b1)),(3,fEq (ptr b2)),(7,fI x6)]) (fun i=>[aA b2 63 [fSl bC a1.AQ,fSl bD a1.AP,fSl bB a1.AO],aA b1 63 [fSl bC a0.AQ,fSl bD a0.AP,fSl bB a0.AO]]) ?_ ?_
 refine Z1 ?_
 refine aL ?_
 revert H;refine bs fun y5 h7 H=>?_
 revert H;refine bs fun y6 h8 H=>?_
 apply bG (ods:=[_,_,_,_,_,_,_,_,_,_,_,_,_,_]) 14 2 4 bF rfl rfl rfl
 refine ND ?_
 refine M8 ?_
 intros
 refine M2 ?_
 intros
 refine Mn 2 (fun b3=>ptr b3) (fun b3=>aA b3 114 [fI 0,fEq (.slice none 0 0),fI 0]) rfl (cF rfl mF rfl) (fun b3 u1=>?_)
 refine Mn 3 (fun b4=>ptr b4) (fun b4=>aA b4 114 [fI 0,fEq (.slice none 0 0),fI 0]) rfl (cF rfl mF rfl) (fun b4 u2=>?_)
 refine rI (od:=od1 10 [2] true (fun b3 _=>eG) (fun b3 _=>[aA b3 114 [fI y5.At,fSl tI y5.AZ,fI y5.AU]])) (p:=2) (φs':=[fI y5.At,fSl tI y5.AZ,fI y5.AU]) rfl (fun _=>rfl) (fun _=>rfl) a1W rfl rfl rfl (has rfl) (has rfl) (aI (aG a1W) (aI (bR) (aI (aG a1W) bM))) (sz rfl) rfl rfl rfl (fun _=>?_)
 refine rI (od:=od1 11 [3] true (fun b4 _=>eG) (fun b4 _=>[aA b4 114 [fI y6.At,fSl tI y6.AZ,fI y6.AU]])) (p:=3) (φs':=[fI y6.At,fSl tI y6.AZ,fI y6.AU]) rfl (fun _=>rfl) (fun _=>rfl) a1W rfl rfl rfl (has rfl) (has rfl) (aI (aG a1W) (aI (bR) (aI (aG a1W) bM))) (sz rfl) rfl rfl rfl (fun _=>?_)
 refine Z2 ?_
 refine aL ?_
 revert H;refine I7z (fun c9 H=>?_) fun c9 H=>?_
 refine Z12 ?_
 revert H;refine jR fun r3 H e3=>?_
 cases e3;cases Hr4
 revert H;refine B3z fun r4 H e4=>?_
 cases e4;cases Hr3
 cases H
 refine aF [] (by decide) ?_
 exact To
 revert H;refine I7z (fun c10 H=>?_) fun c10 H=>?_
 refine Z12 ?_
 revert H;refine B4z fun r5 H e5=>?_
 cases e5;cases Hr4
 revert H;refine B3z fun r6 H e6=>?_
 cases e6;cases Hr3
 cases H
 refine aF [] (by decide) ?_
 exact To
 revert H;refine I9z (fun c11 H=>?_) fun c11 H=>?_
 revert H;refine B7z fun r7 H e7=>?_
 cases e7;cases Hr4
 revert H;refine B3z fun r8 H e8=>?_
 cases e8;cases Hr3
 cases H
 refine aF [] (by decide) ?_
 exact To
 refine Z7 ?_
 refine Th (ι:=Int) (fun i=>aAs y5 y6 i.1 i.2=_) (fun i=>[(2,fEq (ptr b1)),(3,fEq (ptr b2)),(7,fI x6),(8,fEq (ptr b3)),(9,fEq (ptr b4)),(10,fI i.2)]) (fun i=>[aA b2 63 [fSl bC a1.AQ,fSl bD a1.AP,fSl bB a1.AO],aA b1 63 [fSl bC a0.AQ,fSl bD a0.AP,fSl bB a0.AO],aA b3 114 [fI y5.At,fSl tI y5.AZ,fI y5.AU],aA b4 114 [fI y6.At,fSl tI y6.AZ,fI y6.AU]]) (AA,0) H (fun _ h=>nomatch h) ?_
 clear H;rintro k4 x8 H;dsimp only at H ⊢;rw [aAs]at H
 refine aL ?_
 revert H;refine I7z (fun c12 H=>?_) fun c12 H=>?_
 refine Z3 ?_
 refine aL ?_
 refine Z1 ?_
 refine aL ?_
 revert H;refine bs fun y7 h9 H=>?_
 revert H;refine bs fun y8 h10 H=>?_
 apply bG (ods:=[_,_,_,_,_,_,_,_,_,_,_]) 11 0 4 bF rfl rfl rfl
 refine ND ?_
 refine M8 ?_
 intros
 refine M3 ?_
 intros
 revert H;refine I2z (fun c13 H=>?_) fun c13 H=>?_
 revert H;refine jR fun r9 H e9=>?_
 cases e9;cases Hr4
 revert H;refine B3z fun r10 H e10=>?_
 cases e10;cases Hr3
 cases H
 refine aF [] (by decide) ?_
 exact To
 revert H;refine B6z fun z3 h11 H=>?_
 refine Z3 ?_
 exact Tm ((k4,z3)) ⟨H,ls⟩
 exact fk
 kernel_rfl
 refine Z7 ?_
 refine aF [0,1] (by decide) ?_
 exact Tm (()) (ij H)
 exact fk
 kernel_rfl
 rintro i hi;subst o4;replace H:=Hr4;clear Hr4;try dsimp only at H ⊢
 revert H;refine B2z fun z4 h12 H=>?_
 refine Z3 ?_
 exact Tm ((k3,z4)) ⟨H,ls⟩
 refine Z6 ?_
 exact Tm (()) (ij H)
 rintro i hi;subst o3;replace H:=Hr3;clear Hr3;try dsimp only at H ⊢
 refine Z4 ?_
 cases H
 refine aF [] (by decide) ?_
 exact To
def yQ (AA:Nat) (a0:List AN) (a1:List AN):Nat->Int->Option ((Unit) ⊕ (Bool))
| 0,_=>none
| k+1,x2=>
 if x2<(a0.length:Int)then
  (idx a0 x2).bind fun y1=>
  (idx a1 x2).bind fun y2=>
  (aBT AA y1 y2).bind fun y3=>
  bif y3 then
   (chk (x2+1)).bind fun z1=>
   yQ AA a0 a1 k z1
  else
   (some false).bind fun r=>some (Sum.inr r)
 else
  some (Sum.inl ())
def aAR (AA:Nat) (a0:List AN) (a1:List AN):Option (Bool):=
 if (a0.length:Int)≠(a1.length:Int)then
  some false
 else
  (yQ AA a0 a1 AA 0).bind fun o=>match o with
  | Sum.inr r=>some r
  | Sum.inl _=>
  some true
theorem aKQ (AA:Nat)  (a0:List AN) (a1:List AN) (r:Bool) (H:aAR AA a0 a1=some r):FnS Tryz.prog 49 [fSl aB a0,fSl aB a1] [] (aH r) (fun _=>[]):=by
 unfold aAR at H
 refine bS Tryz.func49 rfl Tryz.ntmps49 rfl (fun β=>?_)
 refine Z3 ?_
 refine aL ?_
 refine I7 H (fun c1 H=>?_) fun c1 H=>?_
 refine Z5 ?_
 cases H
 exact To
 revert H;refine B3z fun o1 H Hr1=>?_
 refine aQ (ι:=Unit) (fun i=>o1=Sum.inl ()) (fun i=>[]) (fun i=>[]) ?_ ?_
 refine Z4 ?_
 refine Th (ι:=Int) (fun i=>yQ AA a0 a1 i.1 i.2=_) (fun i=>[(0,fSl aB a0),(1,fSl aB a1),(5,fI i.2)]) (fun i=>[]) (AA,0) H (fun _ h=>nomatch h) ?_
 clear H;rintro k1 x2 H;dsimp only at H ⊢;rw [yQ]at H
 refine aL ?_
 revert H;refine I6z (fun c2 H=>?_) fun c2 H=>?_
 refine Z3 ?_
 refine aL ?_
 refine Z1 ?_
 refine aL ?_
 revert H;refine bs fun y1 h1 H=>?_
 revert H;refine bs fun y2 h2 H=>?_
 revert H;refine bs fun y3 h3 H=>?_
 apply bG (ods:=[_,_,_,_,_,_,_,_,_,_]) 10 0 0 bF rfl rfl rfl
 refine ND ?_
 refine M8 ?_
 intros
 refine Nc (aKT _ _ _ _ h3) fun _=>?_
 refine M1 ?_
 intros
 refine Z2 ?_
 revert H;refine cs (fun c3 H=>?_) fun c3 H=>?_
 revert H;refine B6z fun z1 h4 H=>?_
 refine Z3 ?_
 exact Tm ((k1,z1)) ⟨H,ls⟩
 revert H;refine hO fun r1 H e1=>?_
 cases e1;cases Hr1
 cases H
 exact To
 exact fk
 kernel_rfl
 refine Z6 ?_
 exact Tm (()) (ij H)
 rintro i hi;subst o1;replace H:=Hr1;clear Hr1;try dsimp only at H ⊢
 refine Z4 ?_
 cases H
 exact To
def zK (a0:AC) (a1:AC):Nat->Int->Option ((Unit) ⊕ (Bool))
| 0,_=>none
| k+1,x2=>
 if x2<(a0.Code.length:Int)then
  (idx a0.Code x2).bind fun y2=>
  (idx a1.Code x2).bind fun y3=>
  bif decide (y2.Op=y3.Op) && (decide (y2.A=y3.A) && decide (y2.B=y3.B))then
   (chk (x2+1)).bind fun z1=>
   zK a0 a1 k z1
  else
   (some false).bind fun r=>some (Sum.inr r)
 else
  some (Sum.inl ())
def aA7 (AA:Nat) (a0:AC) (a1:AC):Option (Bool):=
 if a0.AF≠a1.AF then
  some false
 else
  if a0.AG≠a1.AG then
   some false
  else
   if (a0.Code.length:Int)≠(a1.Code.length:Int)then
    some false
   else
    (aAR AA a0.AE a1.AE).bind fun y1=>
    bif y1 then
     (zK a0 a1 AA 0).bind fun o=>match o with
     | Sum.inr r=>some r
     | Sum.inl _=>
     some true
    else
     some false
theorem aKf (AA:Nat)  (a0:AC) (a1:AC) (r:Bool) (H:aA7 AA a0 a1=some r):FnS Tryz.prog 16 [fSt lR a0,fSt lR a1] [] (aH r) (fun _=>[]):=by
 unfold aA7 at H
 refine bS Tryz.func16 rfl Tryz.ntmps16 rfl (fun β=>?_)
 refine Z1 ?_
 refine Tn (cA rfl hh bT) fun b1=>?_
 refine Tn (cA rfl hh bT) fun b2=>?_
 refine Z2 ?_
 refine aL ?_
 refine I7 H (fun c1 H=>?_) fun c1 H=>?_
 refine Z12 ?_
 refine Z12 ?_
 refine Z5 ?_
 cases H
 refine aF [] (by decide) ?_
 exact To
 refine I7 H (fun c2 H=>?_) fun c2 H=>?_
 refine Z12 ?_
 refine Z10 ?_
 cases H
 refine aF [] (by decide) ?_
 exact To
 refine I9 H (fun c3 H=>?_) fun c3 H=>?_
 refine Z12 ?_
 refine Z1 ?_
 cases H
 refine aF [] (by decide) ?_
 exact To
 refine B4 H fun y1 h1 H=>?_
 refine Tc (aKQ _ _ _ _ h1) ?_
 refine Z3 ?_
 refine cz H (fun c4 H=>?_) fun c4 H=>?_
 revert H;refine B3z fun o1 H Hr1=>?_
 refine aQ (ι:=Unit) (fun i=>o1=Sum.inl ()) (fun i=>[]) (fun i=>[aA b2 25 [fI a1.AF,fSl aB a1.AE,fSl aP a1.Code,fI a1.AG],aA b1 25 [fI a0.AF,fSl aB a0.AE,fSl aP a0.Code,fI a0.AG]]) ?_ ?_
 refine Z4 ?_
 refine Th (ι:=Int) (fun i=>zK a0 a1 i.1 i.2=_) (fun i=>[(2,fEq (ptr b1)),(3,fEq (ptr b2)),(5,fI i.2)]) (fun i=>[aA b2 25 [fI a1.AF,fSl aB a1.AE,fSl aP a1.Code,fI a1.AG],aA b1 25 [fI a0.AF,fSl aB a0.AE,fSl aP a0.Code,fI a0.AG]]) (AA,0) H (fun _ h=>nomatch h) ?_
 clear H;rintro k1 x2 H;dsimp only at H ⊢;rw [zK]at H
 refine aL ?_
 revert H;refine I7z (fun c5 H=>?_) fun c5 H=>?_
 refine Z3 ?_
 refine aL ?_
 refine Z1 ?_
 refine aL ?_
 revert H;refine bs fun y2 h2 H=>?_
 revert H;refine bs fun y3 h3 H=>?_
 apply bG (ods:=[_,_,_,_,_,_,_,_,_,_,_]) 11 0 2 bF rfl rfl rfl
 refine ND ?_
 refine M8 ?_
 intros
 refine M2 ?_
 intros
 refine My (o_neqSt3 rfl hh hh rfl rfl aK0) fun _=>?_
 refine Z2 ?_
 revert H;refine cs (fun c6 H=>?_) fun c6 H=>?_
 revert H;refine B6z fun z1 h4 H=>?_
 refine Z3 ?_
 exact Tm ((k1,z1)) ⟨H,ls⟩
 revert H;refine hO fun r1 H e1=>?_
 cases e1;cases Hr1
 cases H
 refine aF [] (by decide) ?_
 exact To
 exact fk
 kernel_rfl
 refine Z6 ?_
 exact Tm (()) (ij H)
 rintro i hi;subst o1;replace H:=Hr1;clear Hr1;try dsimp only at H ⊢
 refine Z4 ?_
 cases H
 refine aF [] (by decide) ?_
 exact To
 refine Z5 ?_
 cases H
 refine aF [] (by decide) ?_
 exact To
open Go.SX Go.SW Go.Dt
def yH (AA:Nat) (a0:AL):Option (Int):=
 (xC AA (⟨a0.AF,a0.AH,a0.AE,a0.AG⟩:AL)).bind fun y1=>
 bif y1.bad then
  some 2
 else
  some 0
theorem aH8 (AA:Nat)  (a0:AL) (r:Int) (H:yH AA a0=some r):FnS Tryz.prog 20 [fSt gL a0] [] (fI r) (fun _=>[]):=by
 unfold yH at H
 refine bS Tryz.func20 rfl Tryz.ntmps20 rfl (fun β=>?_)
 refine Z1 ?_
 refine Tn (cA rfl hh bT) fun b1=>?_
 refine Z2 ?_
 refine aL ?_
 refine B2 H fun y1 h1 H=>?_
 refine Tc (aJW _ _ _ h1) ?_
 refine Z4 ?_
 refine cz H (fun c1 H=>?_) fun c1 H=>?_
 refine Z5 ?_
 cases H
 refine aF [] (by decide) ?_
 exact To
 refine Z7 ?_
 cases H
 refine aF [] (by decide) ?_
 exact To
def vQ (AA:Nat) (a0:AC):Option (Bool):=
 (aA7 AA (⟨a0.AF,a0.AE,a0.Code,a0.AG⟩:AC) (⟨0,[],[],0⟩:AC)).bind fun y1=>
 some y1
theorem aJ7 (AA:Nat)  (a0:AC) (r:Bool) (H:vQ AA a0=some r):FnS Tryz.prog 21 [fSt lR a0] [] (aH r) (fun _=>[]):=by
 unfold vQ at H
 refine bS Tryz.func21 rfl Tryz.ntmps21 rfl (fun β=>?_)
 refine Z1 ?_
 refine Tn (cA rfl hh bT) fun b1=>?_
 refine Z4 ?_
 refine Yy (fK (ψs:=[fI 0,fEq (.slice none 0 0),fEq (.slice none 0 0),fI 0]) rfl aCC rfl bL.nil rfl) ?_
 refine bz H fun y1 h1 H=>?_
 refine yK a1W rfl rfl rfl hh (aS.cons hh (aS.cons (iA rfl (aDj (aJ.cons Ent.rfl (aJ.cons fF (aJ.cons fF (aJ.cons Ent.rfl aJ.nil)))))) aS.nil)) rfl (cb rfl) (aKf AA a0 (⟨0,[],[],0⟩:AC) y1 h1) rfl ?_
 refine Z3 ?_
 cases H
 refine aF [] (by decide) ?_
 exact To
def rJ (a0:AC) (a1:Int):Nat->Int->Int->Option (Int)
| 0,_,_=>none
| k+1,x4,x5=>
 if x5<(a0.Code.length:Int)then
  ((idx a0.Code x5).bind fun y1=>
  if y1.Op=a1 then
   (chk (x4+1)).bind fun z1=>
   some z1
  else
   some x4).bind fun x6=>
  (chk (x5+1)).bind fun z2=>
  rJ a0 a1 k x6 z2
 else
  some x4
def kE (AA:Nat) (a0:AC) (a1:Int):Option (Int):=
 (rJ a0 a1 AA 0 0).bind fun x1=>
 some x1
theorem eC (AA:Nat)  (a0:AC) (a1:Int) (r:Int) (H:kE AA a0 a1=some r):FnS Tryz.prog 22 [fSt lR a0,fI a1] [] (fI r) (fun _=>[]):=by
 unfold kE at H
 refine bS Tryz.func22 rfl Tryz.ntmps22 rfl (fun β=>?_)
 refine Z1 ?_
 refine Tn (cA rfl hh bT) fun b1=>?_
 revert H;refine B5z fun o1 H Hr1=>?_
 refine aQ (fun i=>o1=i) (fun i=>[(5,fI i)]) (fun i=>[aA b1 25 [fI a0.AF,fSl aB a0.AE,fSl aP a0.Code,fI a0.AG]]) ?_ ?_
 refine Z4 ?_
 refine Th (ι:=Int × Int) (fun i=>rJ a0 a1 i.1 i.2.1 i.2.2=_) (fun i=>[(1,fI a1),(2,fEq (ptr b1)),(5,fI i.2.1),(6,fI i.2.2)]) (fun i=>[aA b1 25 [fI a0.AF,fSl aB a0.AE,fSl aP a0.Code,fI a0.AG]]) (AA,0,0) H (fun _ h=>nomatch h) ?_
 clear H;rintro k1 ⟨x4,x5⟩ H;dsimp only at H ⊢;rw [rJ]at H
 refine aL ?_
 revert H;refine I7z (fun c1 H=>?_) fun c1 H=>?_
 revert H;refine B3z fun o2 H Hr2=>?_
 refine aQ (fun i=>o2=i) (fun i=>[(1,fI a1),(2,fEq (ptr b1)),(5,fI i),(6,fI x5)]) (fun i=>[aA b1 25 [fI a0.AF,fSl aB a0.AE,fSl aP a0.Code,fI a0.AG]]) ?_ ?_
 revert H;refine B5z fun y1 h1 H=>?_
 revert H;refine I6z (fun c2 H=>?_) fun c2 H=>?_
 revert H;refine B3z fun z1 h2 H=>?_
 refine Z5 ?_
 exact Tm (z1) (ij H)
 refine Z4 ?_
 exact Tm (x4) (ij H)
 rintro x6 hi;subst o2;replace H:=Hr2;clear Hr2;try dsimp only at H ⊢
 revert H;refine B2z fun z2 h3 H=>?_
 refine Z3 ?_
 exact Tm ((k1,x6,z2)) ⟨H,ls⟩
 refine Z6 ?_
 exact Tm (x4) (ij H)
 rintro x1 hi;subst o1;replace H:=Hr1;clear Hr1;try dsimp only at H ⊢
 refine Z5 ?_
 cases H
 refine aF [] (by decide) ?_
 exact To
def rR (a0:AL) (a1:Int):Nat->Int->Int->Option (Int)
| 0,_,_=>none
| k+1,x4,x5=>
 if x5<(a0.AH.length:Int)then
  ((idx a0.AH x5).bind fun y1=>
  if y1.Op=a1 then
   (chk (x4+1)).bind fun z1=>
   some z1
  else
   some x4).bind fun x6=>
  (chk (x5+1)).bind fun z2=>
  rR a0 a1 k x6 z2
 else
  some x4
def jH (AA:Nat) (a0:AL) (a1:Int):Option (Int):=
 (rR a0 a1 AA 0 0).bind fun x1=>
 some x1
theorem dZ (AA:Nat)  (a0:AL) (a1:Int) (r:Int) (H:jH AA a0 a1=some r):FnS Tryz.prog 23 [fSt gL a0,fI a1] [] (fI r) (fun _=>[]):=by
 unfold jH at H
 refine bS Tryz.func23 rfl Tryz.ntmps23 rfl (fun β=>?_)
 refine Z1 ?_
 refine Tn (cA rfl hh bT) fun b1=>?_
 revert H;refine B5z fun o1 H Hr1=>?_
 refine aQ (fun i=>o1=i) (fun i=>[(5,fI i)]) (fun i=>[aA b1 37 [fSl aK a0.AF,fSl aN a0.AH,fSl aB a0.AE,fI a0.AG]]) ?_ ?_
 refine Z4 ?_
 refine Th (ι:=Int × Int) (fun i=>rR a0 a1 i.1 i.2.1 i.2.2=_) (fun i=>[(1,fI a1),(2,fEq (ptr b1)),(5,fI i.2.1),(6,fI i.2.2)]) (fun i=>[aA b1 37 [fSl aK a0.AF,fSl aN a0.AH,fSl aB a0.AE,fI a0.AG]]) (AA,0,0) H (fun _ h=>nomatch h) ?_
 clear H;rintro k1 ⟨x4,x5⟩ H;dsimp only at H ⊢;rw [rR]at H
 refine aL ?_
 revert H;refine I7z (fun c1 H=>?_) fun c1 H=>?_
 revert H;refine B3z fun o2 H Hr2=>?_
 refine aQ (fun i=>o2=i) (fun i=>[(1,fI a1),(2,fEq (ptr b1)),(5,fI i),(6,fI x5)]) (fun i=>[aA b1 37 [fSl aK a0.AF,fSl aN a0.AH,fSl aB a0.AE,fI a0.AG]]) ?_ ?_
 revert H;refine B5z fun y1 h1 H=>?_
 revert H;refine I6z (fun c2 H=>?_) fun c2 H=>?_
 revert H;refine B3z fun z1 h2 H=>?_
 refine Z5 ?_
 exact Tm (z1) (ij H)
 refine Z4 ?_
 exact Tm (x4) (ij H)
 rintro x6 hi;subst o2;replace H:=Hr2;clear Hr2;try dsimp only at H ⊢
 revert H;refine B2z fun z2 h3 H=>?_
 refine Z3 ?_
 exact Tm ((k1,x6,z2)) ⟨H,ls⟩
 refine Z6 ?_
 exact Tm (x4) (ij H)
 rintro x1 hi;subst o1;replace H:=Hr1;clear Hr1;try dsimp only at H ⊢
 refine Z5 ?_
 cases H
 refine aF [] (by decide) ?_
 exact To
open Go.SX Go.SW Go.Dt
def qY (a0:AL) (y1:AC × Int):Nat->Int->Int->Option ((Int) ⊕ (Bool))
| 0,_,_=>none
| k+1,x5,x6=>
 if x6<(a0.AE.length:Int)then
  (idx a0.AE x6).bind fun y22=>
  (chk (x5+(y22.AO.length:Int))).bind fun z3=>
  (idx a0.AE x6).bind fun y23=>
  (chk (z3+(y23.AP.length:Int))).bind fun z4=>
  (idx y1.1.AE x6).bind fun y24=>
  (idx a0.AE x6).bind fun y25=>
  if (y24.AO.length:Int)≠(y25.AO.length:Int)then
   (some false).bind fun r=>some (Sum.inr r)
  else
   (idx y1.1.AE x6).bind fun y26=>
   (idx a0.AE x6).bind fun y27=>
   if (y26.AP.length:Int)≠(y27.AP.length:Int)then
    (some false).bind fun r=>some (Sum.inr r)
   else
    (chk (x6+1)).bind fun z5=>
    qY a0 y1 k z4 z5
 else
  some (Sum.inl x5)
def aAG (AA:Nat) (a0:AL):Option (Bool):=
 (sY AA (⟨a0.AF,a0.AH,a0.AE,a0.AG⟩:AL)).bind fun y1=>
 (yH AA (⟨a0.AF,a0.AH,a0.AE,a0.AG⟩:AL)).bind fun y2=>
 if y2≠0 then
  (if y1.2=2 then
   (vQ AA (⟨y1.1.AF,y1.1.AE,y1.1.Code,y1.1.AG⟩:AC)).bind fun y3=>
   bif y3 then
    (aAV).bind fun y4=>
    some y4
   else
    some false
  else
   some false).bind fun x1=>
  some x1
 else
  if y1.2≠0 then
   some false
  else
   (zI AA (⟨y1.1.AF,y1.1.AE,y1.1.Code,y1.1.AG⟩:AC)).bind fun y5=>
   if y5≠0 then
    some false
   else
    if y1.1.AF≠(a0.AF.length:Int)then
     some false
    else
     if (y1.1.AE.length:Int)≠(a0.AE.length:Int)then
      some false
     else
      (kE AA (⟨y1.1.AF,y1.1.AE,y1.1.Code,y1.1.AG⟩:AC) 8).bind fun y6=>
      (jH AA (⟨a0.AF,a0.AH,a0.AE,a0.AG⟩:AL) 2).bind fun y7=>
      if y6≠y7 then
       some false
      else
       (kE AA (⟨y1.1.AF,y1.1.AE,y1.1.Code,y1.1.AG⟩:AC) 11).bind fun y8=>
       (jH AA (⟨a0.AF,a0.AH,a0.AE,a0.AG⟩:AL) 4).bind fun y9=>
       if y8≠y9 then
        some false
       else
        (kE AA (⟨y1.1.AF,y1.1.AE,y1.1.Code,y1.1.AG⟩:AC) 9).bind fun y10=>
        (jH AA (⟨a0.AF,a0.AH,a0.AE,a0.AG⟩:AL) 5).bind fun y11=>
        if y10≠y11 then
         some false
        else
         (kE AA (⟨y1.1.AF,y1.1.AE,y1.1.Code,y1.1.AG⟩:AC) 10).bind fun y12=>
         (jH AA (⟨a0.AF,a0.AH,a0.AE,a0.AG⟩:AL) 5).bind fun y13=>
         if y12≠y13 then
          some false
         else
          (kE AA (⟨y1.1.AF,y1.1.AE,y1.1.Code,y1.1.AG⟩:AC) 14).bind fun y14=>
          (jH AA (⟨a0.AF,a0.AH,a0.AE,a0.AG⟩:AL) 7).bind fun y15=>
          if y14≠y15 then
           some false
          else
           (kE AA (⟨y1.1.AF,y1.1.AE,y1.1.Code,y1.1.AG⟩:AC) 13).bind fun y16=>
           (jH AA (⟨a0.AF,a0.AH,a0.AE,a0.AG⟩:AL) 6).bind fun y17=>
           if y16≠y17 then
            some false
           else
            (kE AA (⟨y1.1.AF,y1.1.AE,y1.1.Code,y1.1.AG⟩:AC) 15).bind fun y18=>
            (jH AA (⟨a0.AF,a0.AH,a0.AE,a0.AG⟩:AL) 8).bind fun y19=>
            if y18≠y19 then
             some false
            else
             (jH AA (⟨a0.AF,a0.AH,a0.AE,a0.AG⟩:AL) 6).bind fun y20=>
             (chk (1+y20)).bind fun z1=>
             (jH AA (⟨a0.AF,a0.AH,a0.AE,a0.AG⟩:AL) 8).bind fun y21=>
             (chk (z1+y21)).bind fun z2=>
             (qY a0 y1 AA z2 0).bind fun o=>match o with
             | Sum.inr r=>some r
             | Sum.inl x2=>
             ((kE AA (⟨y1.1.AF,y1.1.AE,y1.1.Code,y1.1.AG⟩:AC) 16).bind fun y28=>
             if y28=x2 then
              (aAV).bind fun y29=>
              some y29
             else
              some false).bind fun x7=>
             some x7
theorem aKG (AA:Nat)  (a0:AL) (r:Bool) (H:aAG AA a0=some r):FnS Tryz.prog 6 [fSt gL a0] [] (aH r) (fun _=>[]):=by
 unfold aAG at H
 refine bS Tryz.func6 rfl Tryz.ntmps6 rfl (fun β=>?_)
 refine Z1 ?_
 refine Tn (cA rfl hh bT) fun b1=>?_
 refine B4 H fun y1 h1 H=>?_
 refine Tc (aJl _ _ _ h1) ?_
 refine Z3 ?_
 refine Tn (cF rfl aC4 rfl) fun b2=>?_
 refine cM (φs':=[fI y1.1.AF,fSl aB y1.1.AE,fSl aP y1.1.Code,fI y1.1.AG]) a1W rfl rfl (has rfl) (has rfl) (aI (aG a1W) (aI (bR) (aI (bR) (aI (aG a1W) bM)))) (sz rfl) rfl rfl rfl ?_
 refine Z2 ?_
 refine aL ?_
 refine B2 H fun y2 h2 H=>?_
 refine Tc (aH8 _ _ _ h2) ?_
 refine I2 H (fun c1 H=>?_) fun c1 H=>?_
 revert H;refine B1z fun o1 H Hr1=>?_
 refine aQ (fun i=>o1=i) (fun i=>[(2,aH i)]) (fun i=>[aA b2 25 [fI y1.1.AF,fSl aB y1.1.AE,fSl aP y1.1.Code,fI y1.1.AG],aA b1 37 [fSl aK a0.AF,fSl aN a0.AH,fSl aB a0.AE,fI a0.AG]]) ?_ ?_
 revert H;refine I4z (fun c2 H=>?_) fun c2 H=>?_
 revert H;refine B1z fun y3 h3 H=>?_
 refine Tc (aJ7 _ _ _ h3) ?_
 refine Z2 ?_
 revert H;refine cs (fun c3 H=>?_) fun c3 H=>?_
 revert H;refine bs fun y4 h4 H=>?_
 refine Tc (aFg _ h4) ?_
 refine Z3 ?_
 exact Tm (y4) (ij H)
 refine Z4 ?_
 exact Tm (false) (ij H)
 refine Z8 ?_
 exact Tm (false) (ij H)
 rintro x1 hi;subst o1;replace H:=Hr1;clear Hr1;try dsimp only at H ⊢
 refine Z1 ?_
 cases H
 refine aF [] (by decide) ?_
 exact To
 refine Z3 ?_
 refine aL ?_
 refine I4 H (fun c4 H=>?_) fun c4 H=>?_
 refine Z12 ?_
 refine Z12 ?_
 refine Z3 ?_
 cases H
 refine aF [] (by decide) ?_
 exact To
 refine B1 H fun y5 h5 H=>?_
 refine Tc (aI4 _ _ _ h5) ?_
 refine I3 H (fun c5 H=>?_) fun c5 H=>?_
 refine Z12 ?_
 refine Z10 ?_
 cases H
 refine aF [] (by decide) ?_
 exact To
 refine I8 H (fun c6 H=>?_) fun c6 H=>?_
 refine Z12 ?_
 refine Z2 ?_
 cases H
 refine aF [] (by decide) ?_
 exact To
 refine I9 H (fun c7 H=>?_) fun c7 H=>?_
 refine Z5 ?_
 cases H
 refine aF [] (by decide) ?_
 exact To
 refine Z3 ?_
 refine aL ?_
 refine aL ?_
 refine bz H fun y6 h6 H=>?_
 refine bz H fun y7 h7 H=>?_
 refine iz H (fun c8 H=>?_) fun c8 H=>?_
 apply bG (ods:=[_,_,_,_,_,_,_,_,_,_,_,_,_,_,_,_,_,_,_,_,_,_,_,_,_,_,_,_,_,_,_,_,_,_,_,_,_,_,_,_,_,_,_,_,_,_,_]) 47 0 2 bF rfl rfl rfl
 refine ND ?_
 refine M1 ?_
 intros
 refine Nc (eC _ _ _ _ h6) fun _=>?_
 refine M1 ?_
 intros
 refine Nc (dZ _ _ _ _ h7) fun _=>?_
 refine M8 ?_
 intros
 refine M8 ?_
 intros
 refine M8 ?_
 intros
 refine M8 ?_
 intros
 refine M8 ?_
 intros
 refine M3 ?_
 intros
 refine Z7 ?_
 cases H
 refine aF [] (by decide) ?_
 exact To
 exact fk
 kernel_rfl
 refine bz H fun y8 h8 H=>?_
 refine bz H fun y9 h9 H=>?_
 refine iz H (fun c9 H=>?_) fun c9 H=>?_
 apply bG (ods:=[_,_,_,_,_,_,_,_,_,_,_,_,_,_,_,_,_,_,_,_,_,_,_,_,_,_,_,_,_,_,_,_,_,_,_,_,_,_,_,_,_,_,_,_,_,_,_]) 47 0 2 bF rfl rfl rfl
 refine ND ?_
 refine M1 ?_
 intros
 refine Nc (eC _ _ _ _ h6) fun _=>?_
 refine M1 ?_
 intros
 refine Nc (dZ _ _ _ _ h7) fun _=>?_
 refine M3 ?_
 intros
 refine Nc (eC _ _ _ _ h8) fun _=>?_
 refine M1 ?_
 intros
 refine Nc (dZ _ _ _ _ h9) fun _=>?_
 refine M8 ?_
 intros
 refine M8 ?_
 intros
 refine M8 ?_
 intros
 refine M8 ?_
 intros
 refine M5 ?_
 intros
 refine Z7 ?_
 cases H
 refine aF [] (by decide) ?_
 exact To
 exact fk
 kernel_rfl
 refine bz H fun y10 h10 H=>?_
 refine bz H fun y11 h11 H=>?_
 refine iz H (fun c10 H=>?_) fun c10 H=>?_
 apply bG (ods:=[_,_,_,_,_,_,_,_,_,_,_,_,_,_,_,_,_,_,_,_,_,_,_,_,_,_,_,_,_,_,_,_,_,_,_,_,_,_,_,_,_,_,_,_,_,_,_]) 47 0 2 bF rfl rfl rfl
 refine ND ?_
 refine M1 ?_
 intros
 refine Nc (eC _ _ _ _ h6) fun _=>?_
 refine M1 ?_
 intros
 refine Nc (dZ _ _ _ _ h7) fun _=>?_
 refine M3 ?_
 intros
 refine Nc (eC _ _ _ _ h8) fun _=>?_
 refine M1 ?_
 intros
 refine Nc (dZ _ _ _ _ h9) fun _=>?_
 refine M4 ?_
 intros
 refine Nc (eC _ _ _ _ h10) fun _=>?_
 refine M1 ?_
 intros
 refine Nc (dZ _ _ _ _ h11) fun _=>?_
 refine M8 ?_
 intros
 refine M8 ?_
 intros
 refine M8 ?_
 intros
 refine M6 ?_
 intros
 refine Z7 ?_
 cases H
 refine aF [] (by decide) ?_
 exact To
 exact fk
 kernel_rfl
 refine bz H fun y12 h12 H=>?_
 refine bz H fun y13 h13 H=>?_
 refine iz H (fun c11 H=>?_) fun c11 H=>?_
 apply bG (ods:=[_,_,_,_,_,_,_,_,_,_,_,_,_,_,_,_,_,_,_,_,_,_,_,_,_,_,_,_,_,_,_,_,_,_,_,_,_,_,_,_,_,_,_,_,_,_,_]) 47 0 2 bF rfl rfl rfl
 refine ND ?_
 refine M1 ?_
 intros
 refine Nc (eC _ _ _ _ h6) fun _=>?_
 refine M1 ?_
 intros
 refine Nc (dZ _ _ _ _ h7) fun _=>?_
 refine M3 ?_
 intros
 refine Nc (eC _ _ _ _ h8) fun _=>?_
 refine M1 ?_
 intros
 refine Nc (dZ _ _ _ _ h9) fun _=>?_
 refine M4 ?_
 intros
 refine Nc (eC _ _ _ _ h10) fun _=>?_
 refine M1 ?_
 intros
 refine Nc (dZ _ _ _ _ h11) fun _=>?_
 refine M4 ?_
 intros
 refine Nc (eC _ _ _ _ h12) fun _=>?_
 refine M1 ?_
 intros
 refine Nc (dZ _ _ _ _ h13) fun _=>?_
 refine M8 ?_
 intros
 refine M8 ?_
 intros
 refine M7 ?_
 intros
 refine Z7 ?_
 cases H
 refine aF [] (by decide) ?_
 exact To
 exact fk
 kernel_rfl
 refine bz H fun y14 h14 H=>?_
 refine bz H fun y15 h15 H=>?_
 refine iz H (fun c12 H=>?_) fun c12 H=>?_
 apply bG (ods:=[_,_,_,_,_,_,_,_,_,_,_,_,_,_,_,_,_,_,_,_,_,_,_,_,_,_,_,_,_,_,_,_,_,_,_,_,_,_,_,_,_,_,_,_,_,_,_]) 47 0 2 bF rfl rfl rfl
 refine ND ?_
 refine M1 ?_
 intros
 refine Nc (eC _ _ _ _ h6) fun _=>?_
 refine M1 ?_
 intros
 refine Nc (dZ _ _ _ _ h7) fun _=>?_
 refine M3 ?_
 intros
 refine Nc (eC _ _ _ _ h8) fun _=>?_
 refine M1 ?_
 intros
 refine Nc (dZ _ _ _ _ h9) fun _=>?_
 refine M4 ?_
 intros
 refine Nc (eC _ _ _ _ h10) fun _=>?_
 refine M1 ?_
 intros
 refine Nc (dZ _ _ _ _ h11) fun _=>?_
 refine M4 ?_
 intros
 refine Nc (eC _ _ _ _ h12) fun _=>?_
 refine M1 ?_
 intros
 refine Nc (dZ _ _ _ _ h13) fun _=>?_
 refine M4 ?_
 intros
 refine Nc (eC _ _ _ _ h14) fun _=>?_
 refine M1 ?_
 intros
 refine Nc (dZ _ _ _ _ h15) fun _=>?_
 refine M8 ?_
 intros
 refine M8 ?_
 intros
 refine Z7 ?_
 cases H
 refine aF [] (by decide) ?_
 exact To
 exact fk
 kernel_rfl
 refine bz H fun y16 h16 H=>?_
 refine bz H fun y17 h17 H=>?_
 refine iz H (fun c13 H=>?_) fun c13 H=>?_
 apply bG (ods:=[_,_,_,_,_,_,_,_,_,_,_,_,_,_,_,_,_,_,_,_,_,_,_,_,_,_,_,_,_,_,_,_,_,_,_,_,_,_,_,_,_,_,_,_,_,_,_]) 47 0 2 bF rfl rfl rfl
 refine ND ?_
 refine M1 ?_
 intros
 refine Nc (eC _ _ _ _ h6) fun _=>?_
 refine M1 ?_
 intros
 refine Nc (dZ _ _ _ _ h7) fun _=>?_
 refine M3 ?_
 intros
 refine Nc (eC _ _ _ _ h8) fun _=>?_
 refine M1 ?_
 intros
 refine Nc (dZ _ _ _ _ h9) fun _=>?_
 refine M4 ?_
 intros
 refine Nc (eC _ _ _ _ h10) fun _=>?_
 refine M1 ?_
 intros
 refine Nc (dZ _ _ _ _ h11) fun _=>?_
 refine M4 ?_
 intros
 refine Nc (eC _ _ _ _ h12) fun _=>?_
 refine M1 ?_
 intros
 refine Nc (dZ _ _ _ _ h13) fun _=>?_
 refine M4 ?_
 intros
 refine Nc (eC _ _ _ _ h14) fun _=>?_
 refine M1 ?_
 intros
 refine Nc (dZ _ _ _ _ h15) fun _=>?_
 refine M4 ?_
 intros
 refine Nc (eC _ _ _ _ h16) fun _=>?_
 refine M1 ?_
 intros
 refine Nc (dZ _ _ _ _ h17) fun _=>?_
 refine M8 ?_
 intros
 refine M1 ?_
 intros
 refine Z7 ?_
 cases H
 refine aF [] (by decide) ?_
 exact To
 exact fk
 kernel_rfl
 refine bz H fun y18 h18 H=>?_
 refine bz H fun y19 h19 H=>?_
 apply bG (ods:=[_,_,_,_,_,_,_,_,_,_,_,_,_,_,_,_,_,_,_,_,_,_,_,_,_,_,_,_,_,_,_,_,_,_,_,_,_,_,_,_,_,_,_,_,_,_,_]) 47 0 2 bF rfl rfl rfl
 refine ND ?_
 refine M1 ?_
 intros
 refine Nc (eC _ _ _ _ h6) fun _=>?_
 refine M1 ?_
 intros
 refine Nc (dZ _ _ _ _ h7) fun _=>?_
 refine M3 ?_
 intros
 refine Nc (eC _ _ _ _ h8) fun _=>?_
 refine M1 ?_
 intros
 refine Nc (dZ _ _ _ _ h9) fun _=>?_
 refine M4 ?_
 intros
 refine Nc (eC _ _ _ _ h10) fun _=>?_
 refine M1 ?_
 intros
 refine Nc (dZ _ _ _ _ h11) fun _=>?_
 refine M4 ?_
 intros
 refine Nc (eC _ _ _ _ h12) fun _=>?_
 refine M1 ?_
 intros
 refine Nc (dZ _ _ _ _ h13) fun _=>?_
 refine M4 ?_
 intros
 refine Nc (eC _ _ _ _ h14) fun _=>?_
 refine M1 ?_
 intros
 refine Nc (dZ _ _ _ _ h15) fun _=>?_
 refine M4 ?_
 intros
 refine Nc (eC _ _ _ _ h16) fun _=>?_
 refine M1 ?_
 intros
 refine Nc (dZ _ _ _ _ h17) fun _=>?_
 refine M4 ?_
 intros
 refine Nc (eC _ _ _ _ h18) fun _=>?_
 refine M1 ?_
 intros
 refine Nc (dZ _ _ _ _ h19) fun _=>?_
 refine M2 ?_
 intros
 refine I2 H (fun c14 H=>?_) fun c14 H=>?_
 refine Z5 ?_
 cases H
 refine aF [] (by decide) ?_
 exact To
 refine Z3 ?_
 refine aL ?_
 refine bz H fun y20 h20 H=>?_
 refine bz H fun z1 h21 H=>?_
 refine bz H fun y21 h22 H=>?_
 refine bz H fun z2 h23 H=>?_
 apply bG (ods:=[_,_,_,_,_,_,_]) 7 0 2 bF rfl rfl rfl
 refine ND ?_
 refine M1 ?_
 intros
 refine Nc (dZ _ _ _ _ h20) fun _=>?_
 refine M2 ?_
 intros
 refine Nc (dZ _ _ _ _ h22) fun _=>?_
 refine M2 ?_
 intros
 revert H;refine B2z fun o2 H Hr2=>?_
 refine aQ (fun i=>o2=Sum.inl i) (fun i=>[(3,fEq (ptr b2)),(5,fI i)]) (fun i=>[aA b2 25 [fI y1.1.AF,fSl aB y1.1.AE,fSl aP y1.1.Code,fI y1.1.AG],aA b1 37 [fSl aK a0.AF,fSl aN a0.AH,fSl aB a0.AE,fI a0.AG]]) ?_ ?_
 refine Z4 ?_
 refine Th (ι:=Int × Int) (fun i=>qY a0 y1 i.1 i.2.1 i.2.2=_) (fun i=>[(1,fEq (ptr b1)),(3,fEq (ptr b2)),(5,fI i.2.1),(6,fI i.2.2)]) (fun i=>[aA b2 25 [fI y1.1.AF,fSl aB y1.1.AE,fSl aP y1.1.Code,fI y1.1.AG],aA b1 37 [fSl aK a0.AF,fSl aN a0.AH,fSl aB a0.AE,fI a0.AG]]) (AA,z2,0) H (fun _ h=>nomatch h) ?_
 clear H;rintro k1 ⟨x5,x6⟩ H;dsimp only at H ⊢;rw [qY]at H
 refine aL ?_
 revert H;refine I7z (fun c15 H=>?_) fun c15 H=>?_
 refine Z3 ?_
 refine aL ?_
 refine Z1 ?_
 refine aL ?_
 revert H;refine bs fun y22 h24 H=>?_
 revert H;refine bs fun z3 h25 H=>?_
 revert H;refine bs fun y23 h26 H=>?_
 revert H;refine bs fun z4 h27 H=>?_
 apply bG (ods:=[_,_,_,_,_,_,_,_,_,_,_,_,_,_,_,_,_,_]) 18 0 2 bF rfl rfl rfl
 refine ND ?_
 refine M4 ?_
 intros
 refine My (eH rfl hh hh (el rfl) h24) fun _=>?_
 refine M7 ?_
 intros
 refine My (eH rfl hh hh (el rfl) h26) fun _=>?_
 refine M5 ?_
 intros
 refine Z2 ?_
 refine aL ?_
 revert H;refine bs fun y24 h28 H=>?_
 revert H;refine bs fun y25 h29 H=>?_
 revert H;refine is (fun c16 H=>?_) fun c16 H=>?_
 apply bG (ods:=[_,_,_,_,_,_,_,_,_,_,_,_,_,_,_,_,_,_,_,_,_,_,_,_,_,_,_,_,_,_,_,_]) 32 0 2 bF rfl rfl rfl
 refine ND ?_
 refine M3 ?_
 intros
 refine My (eH rfl hh hh (el rfl) h28) fun _=>?_
 refine M6 ?_
 intros
 refine My (eH rfl hh hh (el rfl) h29) fun _=>?_
 refine M8 ?_
 intros
 refine M8 ?_
 intros
 refine M5 ?_
 intros
 revert H;refine B12z fun r1 H e1=>?_
 cases e1;cases Hr2
 cases H
 refine aF [] (by decide) ?_
 exact To
 exact fk
 kernel_rfl
 revert H;refine bs fun y26 h30 H=>?_
 revert H;refine bs fun y27 h31 H=>?_
 apply bG (ods:=[_,_,_,_,_,_,_,_,_,_,_,_,_,_,_,_,_,_,_,_,_,_,_,_,_,_,_,_,_,_,_,_]) 32 0 2 bF rfl rfl rfl
 refine ND ?_
 refine M3 ?_
 intros
 refine My (eH rfl hh hh (el rfl) h28) fun _=>?_
 refine M6 ?_
 intros
 refine My (eH rfl hh hh (el rfl) h29) fun _=>?_
 refine M8 ?_
 intros
 refine M8 ?_
 intros
 refine M5 ?_
 intros
 revert H;refine I2z (fun c17 H=>?_) fun c17 H=>?_
 revert H;refine hO fun r2 H e2=>?_
 cases e2;cases Hr2
 cases H
 refine aF [] (by decide) ?_
 exact To
 revert H;refine B6z fun z5 h32 H=>?_
 refine Z3 ?_
 exact Tm ((k1,z4,z5)) ⟨H,ls⟩
 exact fk
 kernel_rfl
 exact fk
 kernel_rfl
 refine Z6 ?_
 exact Tm (x5) (ij H)
 rintro x2 hi;subst o2;replace H:=Hr2;clear Hr2;try dsimp only at H ⊢
 revert H;refine bs fun o3 H Hr3=>?_
 refine aQ (fun i=>o3=i) (fun i=>[(2,aH i)]) (fun i=>[aA b2 25 [fI y1.1.AF,fSl aB y1.1.AE,fSl aP y1.1.Code,fI y1.1.AG],aA b1 37 [fSl aK a0.AF,fSl aN a0.AH,fSl aB a0.AE,fI a0.AG]]) ?_ ?_
 revert H;refine B2z fun y28 h33 H=>?_
 refine Tc (eC _ _ _ _ h33) ?_
 revert H;refine I3z (fun c18 H=>?_) fun c18 H=>?_
 revert H;refine bs fun y29 h34 H=>?_
 refine Tc (aFg _ h34) ?_
 refine Z3 ?_
 exact Tm (y29) (ij H)
 refine Z4 ?_
 exact Tm (false) (ij H)
 rintro x7 hi;subst o3;replace H:=Hr3;clear Hr3;try dsimp only at H ⊢
 refine Z1 ?_
 cases H
 refine aF [] (by decide) ?_
 exact To
 exact fk
 kernel_rfl
 exact fk
 kernel_rfl
open Go.SX Go.SW Go.Dt
theorem bsm {α γ:Type} {a:α} {f:α->Option γ}:(some a).bind f=f a:=by
 cases h:f a <;> simp [h]
theorem qL {α:Type} {xs:List α} {i:Nat} {y:α} (h:xs[i]? =some y):idx xs (i:Int)=some y:=by
 unfold idx;rw [a1V (by omega)];simpa using h
theorem fD {α:Type} (AB AD:List α) (y:α):idx (AB++y :: AD) (AB.length:Int)=some y:=qL (by simp)
theorem cU {i:Int} (h:-9000000000000000000<=i/\i<=9000000000000000000):chk i=some i:=by unfold chk;rw [a1V (by omega)]
theorem fR {α:Type} (AB AD:List α) (y:α):(AB.length:Int)<((AB++y :: AD).length:Int):=by simp;omega
theorem snoc {α:Type} (AB AD:List α) (y:α):AB++y :: AD=(AB++[y])++AD:=by simp
theorem gH {α:Type} (AB:List α) (y:α):(AB.length:Int)+1=((AB++[y]).length:Int):=by simp
theorem idx_get {α:Type} {xs:List α} {i:Int} (h0:0<=i) (h1:i<xs.length):idx xs i=some (xs[i.toNat]'(by omega)):=by
 unfold idx;rw [a1V h0];simp
theorem yN {α:Type} {xs:List α} (h:xs.length<=1000000000):eP xs=some xs:=by unfold eP;rw [a1V h]
theorem aFS {α:Type} (AB AD:List α):slc (AB++AD) 0 (AB.length:Int)=some AB:=by
 unfold slc;rw [a1V (by simp;omega)];simp
def W:Value:= .iface 163 (.agg ([]:List Value).toArray)
theorem fA:cC true=some (.inl ()):=rfl
theorem dO:cC false=some (.inr W):=rfl
structure gW {α:Type} (g:aE Int α) (n:Nat):Prop where
 lt:∀ (k:Int) (y:α),g.get k=some y->0<=k/\k<(n:Int)
 size:g.size=((List.range n).filter fun (i:Nat)=>(g.get (i:Int)).isSome).length
theorem gW.none {α:Type} (n:Nat):gW (aE.none:aE Int α) n:=⟨fun k y h=>(by simp [aE.none]at h),by
 have:(List.range n).filter (fun (i:Nat)=>((aE.none:aE Int α).get (i:Int)).isSome)=[]:=List.filter_eq_nil_iff.2 fun _ _=>by simp [aE.none]
 rw [this];rfl⟩
theorem aG7 (f:Nat->Bool) (j:Nat) (hf:f j=false):∀ n,(if j<n then 1 else 0)+((List.range n).filter f).length=((List.range n).filter fun i=>decide (i=j) || f i).length
 | 0=>by simp
 | n+1=>by
  have ih:=aG7 f j hf n;rw [List.range_succ,List.filter_append,List.filter_append,a0L,a0L,<- ih];by_cases h:n=j
  ·subst h;simp [hf];omega
  ·have e:[n].filter (fun i=>decide (i=j) || f i)=[n].filter f:=by simp [List.filter,h]
   rw [e];by_cases h2:j<n
   ·rw [a1V h2,a1V (by omega)];omega
   ·rw [a1U h2,a1U (by omega)];omega
theorem gW.upd {α:Type} {g:aE Int α} {n:Nat} (h:gW g n) {k:Int} {y:α} (hk:0<=k/\k<n):gW (g.upd k y) n:=by
 refine⟨fun k' y' h'=>?_,?_⟩
 ·by_cases e:k'=k
  ·subst e;exact hk
  ·exact h.lt k' y' (by simpa [aE.upd,e] using h')
 ·have hg:(fun i:Nat=>((g.upd k y).get (i:Int)).isSome)=fun i:Nat=>decide (i=k.toNat) || (g.get (i:Int)).isSome:=by
   funext i
   simp only [aE.upd];by_cases e:(i:Int)=k
   ·rw [a1V e,a1S (by omega)];rfl
   ·rw [a1U e,a1R (by omega)];rfl
  have hk':((k.toNat:Nat):Int)=k:=by omega
  rw [hg];simp only [aE.upd];cases hs:(g.get k).isSome with
  | true=>
   rw [a1V rfl,h.size];congr 2
   funext i
   by_cases e:i=k.toNat
   ·subst e;rw [hk',hs];simp
   ·simp [e]
  | false=>
   rw [a1U (by simp),<- aG7 (fun i:Nat=>(g.get (i:Int)).isSome) k.toNat (by rw [hk',hs]) n,a1V (by omega),<- h.size];omega
theorem gW.full {α:Type} {g:aE Int α} {n:Nat} (h:gW g n):g.size=n ↔ ∀ i:Nat,i<n->(g.get (i:Int)).isSome=true:=by
 rw [h.size]
 constructor
 ·intro e i hi;have hl:(List.range n).length=n:=a0P;have:=List.filter_eq_self.1 ((List.filter_sublist (p:=fun i:Nat=>(g.get (i:Int)).isSome)).eq_of_length (by rw [e,hl])) i (List.mem_range.2 hi)
  exact this
 ·intro hh;rw [List.filter_eq_self.2 fun i hi=>hh i (List.mem_range.1 hi),a0P]
theorem aLm {c:Int} (AD:List Int):∀ (AB:List Int) (k:Nat),AD.length<k->AB.length+AD.length<=3000000->c ∉ AB ->
 ∃ r,kO (AB++AD) c k AB.length=some r/\((c∈AD/\∃ i:Int,r= .inr i/\0<=i)\/(c ∉ AD/\r= .inl ())):=by
 induction AD with
 | nil=>
  intro AB k hk _ _;obtain _ | k:=k
  ·omega
  exact⟨_,by rw [kO,a1U (by simp)], .inr ⟨by simp,rfl⟩⟩
 | cons e AD ih=>
  intro AB k hk hB hn;obtain _ | k:=k
  ·omega
  simp only [a0M]at hk hB;by_cases he:c=e
  ·exact⟨_,by rw [kO,a1V (fR _ _ _),fD,bsm,a1V he];rfl, .inl ⟨by simp [he],_,rfl,by omega⟩⟩
  ·obtain⟨r,h1,h2⟩:=ih (AB++[e]) k (by omega) (by simp;omega) (by simp [hn,he])
   refine⟨r,?_,?_⟩
   ·rw [kO,a1V (fR _ _ _),fD,bsm,a1U he,cU (by omega),bsm,snoc AB AD e,gH AB e];exact h1
   ·rcases h2 with⟨h2,h3⟩ | ⟨h2,h3⟩
    ·exact .inl ⟨by simp [h2],h3⟩
    ·exact .inr ⟨by simp [h2,he],h3⟩
theorem aKN {AA:Nat} {l:List Int} {c:Int} (hf:l.length<AA) (hB:l.length<=3000000):pO AA l c=some (decide (c∈l)):=by
 obtain⟨r,h1,h2⟩:=aLm (c:=c) l [] AA hf (by simpa using hB) (by simp)
 simp only [a1l,a0O,a0n]at h1
 rw [pO,vR,h1]
 rcases h2 with⟨h2,i,rfl,h3⟩ | ⟨h2,rfl⟩
 ·simp [h2,h3]
 ·simp [h2]
def okCh (n:Nat) (c:Ar):Prop:=0<=c.At/\c.At<=(n:Int)/\0<=c.Au/\c.Au<=3
instance {n:Nat} {c:Ar}:Decidable (okCh n c):=by unfold okCh;infer_instance
def lC:Nat->List As->Prop
 | _,[]=>True
 | i,s :: l=>(0<=s.In/\s.In<=(i:Int))/\lC (i+1) l
instance lC.dec:∀ {i:Nat} {l:List As},Decidable (lC i l)
 | _,[]=>isTrue trivial
 | i,s :: l=>by unfold lC;have:=lC.dec (i:=i+1) (l:=l);infer_instance
def jZ (ch:List Ar) (at_:Int):List Int->List Int->Prop
 | _,[]=>True
 | AB,j :: l=>(0<=j/\j<ch.length/\(∃ c,ch[j.toNat]? =some c/\c.At=at_)/\j ∉ AB)/\jZ ch at_ (AB++[j]) l
def okR (n:Nat) (ch:List Ar) (r:Al):Prop:=(0<=r.At/\r.At<=(n:Int)/\1<=r.AZ.length/\r.AZ.length<=3)/\jZ ch r.At [] r.AZ
def okD (d:AN):Prop:=(d.AQ.length<=30/\d.AP.length<=30/\d.AO.length<=30)/\(∀ c∈d.AQ,okCh d.AP.length c)/\lC 0 d.AP/\(∀ r∈d.AO,okR d.AP.length d.AQ r)/\∀ i:Nat,i<d.AQ.length->∃ r∈d.AO,(i:Int)∈r.AZ
def inD (n:Nat) (d:AN):Prop:=(∀ s∈d.AP,0<=s.AU/\s.AU<(n:Int))/\∀ r∈d.AO,0<=r.AU/\r.AU<(n:Int)
open Classical in
theorem qG (x:AV) (n:Int):lX x n=some (x,decide (0<=n/\n<x.AC.Code.length)):=by
 obtain⟨⟨a,b,c,d⟩,e,f,g,h⟩:=x
 rw [lX]
 by_cases h1:0<=n
 ·rw [a1V h1,bsm];simp [h1]
 ·rw [a1U h1,bsm];simp [h1]
theorem aD1 {a:Int} {d:AN}:uN a d=some (decide (0<=a/\a<=(d.AP.length:Int))):=by
 rw [uN]
 by_cases h:0<=a
 ·rw [a1V h,bsm];simp [h]
 ·rw [a1U h,bsm];simp [h]
open Go.SX Go.SW Go.Dt
open Classical in
theorem pd1 {sp:List As} {ru:List Al} (AD:List Ar):∀ (AB:List Ar) (k:Nat),AD.length<k->AB.length+AD.length<=3000000 ->
 rZ ⟨AB++AD,sp,ru⟩ k AB.length=some (if ∀ c∈AD,okCh sp.length c then .inl () else .inr (.inr W)):=by
 induction AD with
 | nil=>
  intro AB k hk _;obtain _ | k:=k
  ·omega
  rw [rZ,a1U (by simp),a1V (fun _ h=>by cases h)]
 | cons e AD ih=>
  intro AB k hk hB;obtain _ | k:=k
  ·omega
  simp only [a0M]at hk hB;rw [rZ,a1V (fR _ _ _)];dsimp only
  rw [fD,bsm,aD1,bsm];dsimp only
  by_cases h:okCh sp.length e
  ·obtain⟨h1,h2,h3,h4⟩:=h;rw [a1S ⟨h1,h2⟩,a1Q,a1V h3,a1S h4,fA,bsm];simp only [bsm];rw [cU (by omega),bsm,snoc AB AD e,gH AB e,ih (AB++[e]) k (by omega) (by simp;omega)];by_cases hs:∀ c∈AD,okCh sp.length c
   ·rw [a1V hs,a1V (fun c hc=>by cases hc with | head=>exact⟨h1,h2,h3,h4⟩ | tail _ hc=>exact hs c hc)]
   ·rw [a1U hs,a1U (fun g=>hs fun c hc=>g c (.tail _ hc))]
  ·rw [a1U (fun g:∀ c∈e :: AD,okCh sp.length c=>h (g e (.head _)))];by_cases h1:0<=e.At/\e.At<=(sp.length:Int)
   ·rw [a1S h1,a1Q];by_cases h3:0<=e.Au
    ·rw [a1V h3,a1R (fun h4=>h ⟨h1.1,h1.2,h3,h4⟩),dO];rfl
    ·rw [a1U h3,dO];rfl
   ·rw [a1R h1,dO];rfl
open Classical in
theorem pd2 {ch:List Ar} {ru:List Al} {F M:Int} {D:List AN} {C:List AI} {b la td:List Int} {lv:aE Int AM} (AD:List As):∀ (AB:List As) (k:Nat),AD.length<k->AB.length+AD.length<=3000000 ->
 rU ⟨ch,AB++AD,ru⟩ k AB.length F D C M b la lv td=some (if lC AB.length AD/\∀ s∈AD,0<=s.AU/\s.AU<(C.length:Int)then .inl (F,D,C,M,b,la,lv,td) else .inr (.inr W)):=by
 induction AD with
 | nil=>
  intro AB k hk _;obtain _ | k:=k
  ·omega
  rw [rU,a1U (by simp),a1V ⟨trivial,fun _ h=>by cases h⟩]
 | cons e AD ih=>
  intro AB k hk hB;obtain _ | k:=k
  ·omega
  simp only [a0M]at hk hB;rw [rU,a1V (fR _ _ _)];dsimp only
  rw [fD,bsm];by_cases h:(0<=e.In/\e.In<=(AB.length:Int))/\0<=e.AU/\e.AU<(C.length:Int)
  ·obtain⟨⟨h1,h2⟩,h3⟩:=h;rw [a1V h1,a1V h2,qG,bsm];dsimp only
   rw [a1S h3,fA,bsm];simp only [bsm];rw [cU (by omega),bsm,snoc AB AD e,gH AB e,ih (AB++[e]) k (by omega) (by simp;omega)];have hl:(AB++[e]).length=AB.length+1:=by simp
   rw [hl];by_cases hs:lC (AB.length+1) AD/\∀ s∈AD,0<=s.AU/\s.AU<(C.length:Int)
   ·rw [a1V hs,a1V ⟨⟨⟨h1,h2⟩,hs.1⟩,fun c hc=>by cases hc with | head=>exact h3 | tail _ hc=>exact hs.2 c hc⟩]
   ·rw [a1U hs,a1U (fun g=>hs ⟨g.1.2,fun c hc=>g.2 c (.tail _ hc)⟩)]
  ·rw [a1U (fun g:lC AB.length (e :: AD)/\∀ s∈e :: AD,0<=s.AU/\s.AU<(C.length:Int)=>h ⟨g.1.1,g.2 e (.head _)⟩)];by_cases h1:0<=e.In
   ·rw [a1V h1];by_cases h2:e.In<=(AB.length:Int)
    ·rw [a1V h2,qG,bsm];dsimp only
     rw [a1R (fun h3=>h ⟨⟨h1,h2⟩,h3⟩),dO];rfl
    ·rw [a1U h2,dO];rfl
   ·rw [a1U h1,dO];rfl
def fJ (g:aE Int Bool) (l:List Int):aE Int Bool:=l.foldl (fun g j=>g.upd j true) g
def updR (g:aE Int Bool) (l:List Al):aE Int Bool:=l.foldl (fun g r=>fJ g r.AZ) g
theorem aGs {n:Nat}:∀ (l:List Int) (g:aE Int Bool),gW g n->(∀ j∈l,0<=j/\j<(n:Int))->gW (fJ g l) n/\∀ i,((fJ g l).get i).isSome=true ↔ (g.get i).isSome=true\/i∈l
 | [],g,h,_=>⟨h,fun i=>by simp [fJ]⟩
 | j :: l,g,h,hl=>by
  obtain⟨h1,h2⟩:=aGs l (g.upd j true) (h.upd (hl j (.head _))) fun x hx=>hl x (.tail _ hx)
  refine⟨h1,fun i=>(h2 i).trans ?_⟩
  by_cases e:i=j
  ·subst e;simp [aE.upd]
  ·simp [aE.upd,e]
theorem aHW {ch:List Ar} {a:Int}:∀ {l AB:List Int},jZ ch a AB l->∀ j∈l,0<=j/\j<(ch.length:Int)
 | j :: l,AB,h,x,hx=>by
  cases hx with
  | head=>exact⟨h.1.1,h.1.2.1⟩
  | tail _ hx=>exact aHW h.2 x hx
theorem aHL {n k:Nat} {ch:List Ar} (hn:ch.length=n):∀ (l:List Al) (g:aE Int Bool),gW g n->(∀ r∈l,okR k ch r)->gW (updR g l) n/\∀ i,((updR g l).get i).isSome=true ↔ (g.get i).isSome=true\/∃ r∈l,i∈r.AZ
 | [],g,h,_=>⟨h,fun i=>by simp [updR]⟩
 | r :: l,g,h,hl=>by
  obtain⟨h1,h2⟩:=aGs r.AZ g h fun j hj=>by have:=aHW (hl r (.head _)).2 j hj;omega
  obtain⟨h3,h4⟩:=aHL hn l (fJ g r.AZ) h1 fun x hx=>hl x (.tail _ hx)
  refine⟨h3,fun i=>(h4 i).trans ?_⟩
  rw [h2];simp [or_assoc]
open Classical in
theorem pd4 {AA:Nat} {ch:List Ar} {sp:List As} {ru:List Al} {a nd:Int} {F M:Int} {D:List AN} {C:List AI} {b la td:List Int} {lv:aE Int AM} (AD:List Int):∀ (AB:List Int) (k:Nat) (g:aE Int Bool),AD.length<k->AB.length+AD.length<=3000000->AB.length+AD.length<AA ->
 sT AA ⟨ch,sp,ru⟩ ⟨a,AB++AD,nd⟩ F D C M b la lv td k AB.length g=some (if jZ ch a AB AD then .inl (F,D,C,M,b,la,lv,td,fJ g AD) else .inr (.inr (.inr W))):=by
 induction AD with
 | nil=>
  intro AB k g hk _ _;obtain _ | k:=k
  ·omega
  rw [sT,a1U (by simp),a1V (show jZ ch a AB []from trivial)];rfl
 | cons e AD ih=>
  intro AB k g hk hB hf;obtain _ | k:=k
  ·omega
  simp only [a0M]at hk hB hf;rw [sT,a1V (fR _ _ _)];dsimp only
  rw [fD,bsm];by_cases h0:0<=e/\e<(ch.length:Int)
  ·rw [a1V h0.1,a1V h0.2,idx_get h0.1 h0.2,bsm];have hc:ch[e.toNat]? =some (ch[e.toNat]'(by omega)):=by simp
   by_cases h1:(ch[e.toNat]'(by omega)).At=a
   ·rw [a1V h1,aFS,bsm,aKN (by omega) (by omega),bsm];by_cases h2:e∈AB
    ·rw [a1S h2,a0l,dO,a1U (fun g:jZ ch a AB (e :: AD)=>g.1.2.2.2 h2)];rfl
    ·rw [a1R h2,a0k,fA,bsm];simp only [bsm];rw [cU (by omega),bsm,snoc AB AD e,gH AB e,ih (AB++[e]) k _ (by omega) (by simp;omega) (by simp;omega)];by_cases hs:jZ ch a (AB++[e]) AD
     ·rw [a1V hs,a1V ⟨⟨h0.1,h0.2,⟨_,hc,h1⟩,h2⟩,hs⟩];rfl
     ·rw [a1U hs,a1U (fun g=>hs g.2)]
   ·rw [a1U h1,dO,a1U (fun g=>by obtain⟨⟨_,_,⟨c,g1,g2⟩,_⟩,_⟩:=g;rw [hc]at g1;cases g1;exact h1 g2)];rfl
  ·rw [a1U (fun g:jZ ch a AB (e :: AD)=>h0 ⟨g.1.1,g.1.2.1⟩)];by_cases h1:0<=e
   ·rw [a1V h1,a1U (fun h2=>h0 ⟨h1,h2⟩),dO];rfl
   ·rw [a1U h1,dO];rfl
open Classical in
theorem pd3 {AA:Nat} {ch:List Ar} {sp:List As} {F M:Int} {D:List AN} {C:List AI} {b la td:List Int} {lv:aE Int AM} (hf:3000000<AA) (AD:List Al):∀ (AB:List Al) (k:Nat) (g:aE Int Bool),AD.length<k->AB.length+AD.length<=3000000->(∀ r∈AD,r.AZ.length<=3000000) ->
 qE AA ⟨ch,sp,AB++AD⟩ k AB.length F D C M b la lv td g=some (if ∀ r∈AD,okR sp.length ch r/\0<=r.AU/\r.AU<(C.length:Int)then .inl (F,D,C,M,b,la,lv,td,updR g AD) else .inr (.inr W)):=by
 induction AD with
 | nil=>
  intro AB k g hk _ _;obtain _ | k:=k
  ·omega
  rw [qE,a1U (by simp),a1V (fun _ h=>by cases h)];rfl
 | cons e AD ih=>
  intro AB k g hk hB hj;obtain _ | k:=k
  ·omega
  simp only [a0M]at hk hB;obtain⟨ea,ej,en⟩:=e;rw [qE,a1V (fR _ _ _)];dsimp only
  rw [fD,bsm,aD1,bsm];dsimp only
  by_cases h1:0<=ea/\ea<=(sp.length:Int)
  ·rw [a1S h1,a1Q];by_cases h2:1<=ej.length/\ej.length<=3
   ·rw [a1V (by omega),a1V (by omega),qG,bsm];dsimp only
    by_cases h3:0<=en/\en<(C.length:Int)
    ·rw [a1S h3,fA,bsm];simp only [bsm];have h4:=pd4 (AA:=AA) (ch:=ch) (sp:=sp) (ru:=AB++⟨ea,ej,en⟩ :: AD) (a:=ea) (nd:=en) (F:=F) (M:=M) (D:=D) (C:=C) (b:=b) (la:=la) (td:=td) (lv:=lv) ej [] AA g (by omega) (by simp;omega) (by simp;omega)
     simp only [a1l,a0O,a0n]at h4;rw [h4];by_cases h5:jZ ch ea [] ej
     ·rw [a1V h5,bsm];dsimp only
      rw [cU (by omega),bsm,snoc AB AD _,gH AB _,ih (AB++[_]) k _ (by omega) (by simp;omega) (fun r hr=>hj r (.tail _ hr))];by_cases hs:∀ r∈AD,okR sp.length ch r/\0<=r.AU/\r.AU<(C.length:Int)
      ·rw [a1V hs,a1V (fun r hr=>by
        cases hr with
        | head=>exact⟨⟨⟨h1.1,h1.2,h2⟩,h5⟩,h3⟩
        | tail _ hr=>exact hs r hr)];rfl
      ·rw [a1U hs,a1U (fun g=>hs fun r hr=>g r (.tail _ hr))]
     ·rw [a1U h5,a1U (fun g=>h5 (g _ (.head _)).1.2)];rfl
    ·rw [a1R h3,dO,a1U (fun g=>h3 (g _ (.head _)).2)];rfl
   ·rw [a1U (fun g:∀ r∈(⟨ea,ej,en⟩:Al) :: AD,okR sp.length ch r/\0<=r.AU/\r.AU<(C.length:Int)=>h2 (g ⟨ea,ej,en⟩ (.head _)).1.1.2.2)];by_cases h3:0<(ej.length:Int)
    ·rw [a1V h3,a1U (by omega),dO];rfl
    ·rw [a1U h3,dO];rfl
  ·rw [a1R h1,dO,a1U (fun g:∀ r∈(⟨ea,ej,en⟩:Al) :: AD,okR sp.length ch r/\0<=r.AU/\r.AU<(C.length:Int)=>h1 ⟨(g _ (.head _)).1.1.1,(g _ (.head _)).1.1.2.1⟩)];rfl
def smD (d:AN):Prop:=d.AQ.length<=2000000/\d.AP.length<=2000000/\d.AO.length<=2000000/\∀ r∈d.AO,r.AZ.length<=2000000
open Classical in
theorem aKS {AA:Nat} {x:AV} {d:AN} (hf:4000000<=AA) (hs:smD d):yL AA x d=some (if okD d/\inD x.AC.Code.length d then .inl x else .inr W):=by
 obtain⟨ch,sp,ru⟩:=d
 obtain⟨⟨F,D,C,M⟩,b,la,lv,td⟩:=x
 obtain⟨s1,s2,s3,s4⟩:=hs
 simp only at s1 s2 s3 s4
 rw [yL]
 dsimp only
 by_cases h0:ch.length<=30/\sp.length<=30/\ru.length<=30
 ·rw [a1V (by omega),a1V (by omega),a1S (by omega),fA,bsm];simp only [bsm];have e1:=pd1 (sp:=sp) (ru:=ru) ch [] AA (by omega) (by simp;omega)
  have e2:=pd2 (ch:=ch) (ru:=ru) (F:=F) (M:=M) (D:=D) (C:=C) (b:=b) (la:=la) (td:=td) (lv:=lv) sp [] AA (by omega) (by simp;omega)
  have e3:=pd3 (AA:=AA) (ch:=ch) (sp:=sp) (F:=F) (M:=M) (D:=D) (C:=C) (b:=b) (la:=la) (td:=td) (lv:=lv) (by omega) ru [] AA aE.none (by omega) (by simp;omega) (fun r hr=>by have:=s4 r hr;omega)
  simp only [a1l,a0O,a0n]at e1 e2 e3;rw [e1];by_cases h1:∀ c∈ch,okCh sp.length c
  ·rw [a1V h1,bsm];dsimp only
   rw [e2];by_cases h2:lC 0 sp/\∀ s∈sp,0<=s.AU/\s.AU<(C.length:Int)
   ·rw [a1V h2,bsm];dsimp only
    rw [e3];by_cases h3:∀ r∈ru,okR sp.length ch r/\0<=r.AU/\r.AU<(C.length:Int)
    ·rw [a1V h3,bsm];dsimp only
     obtain⟨k1,k2⟩:=aHL (k:=sp.length) rfl ru _ (gW.none ch.length) fun r hr=>(h3 r hr).1
     by_cases h4:(updR aE.none ru).size=ch.length
     ·rw [a1S (by omega),fA,bsm];dsimp only
      rw [a1V ⟨⟨h0,h1,h2.1,fun r hr=>(h3 r hr).1,fun i hi=>by
       have:=(k2 i).1 (k1.full.1 h4 i hi);simpa [aE.none] using this⟩,h2.2,fun r hr=>(h3 r hr).2⟩]
     ·rw [a1R (by omega),dO,bsm];dsimp only
      rw [a1U];rintro⟨⟨_,_,_,_,g⟩,_⟩
      exact h4 (k1.full.2 fun i hi=>(k2 i).2 (.inr (g i hi)))
    ·rw [a1U h3,bsm];dsimp only
     rw [a1U (fun g=>h3 fun r hr=>⟨g.1.2.2.2.1 r hr,g.2.2 r hr⟩)]
   ·rw [a1U h2,bsm];dsimp only
    rw [a1U (fun g=>h2 ⟨g.1.2.2.1,g.2.1⟩)]
  ·rw [a1U h1,bsm];dsimp only
   rw [a1U (fun g=>h1 g.1.2.1)]
 ·rw [a1U (fun g:okD ⟨ch,sp,ru⟩/\inD C.length ⟨ch,sp,ru⟩=>h0 g.1.1)];by_cases h1:ch.length<=30
  ·rw [a1V (by omega)];by_cases h2:sp.length<=30
   ·rw [a1V (by omega),a1R (by omega),dO];rfl
   ·rw [a1U (by omega),dO];rfl
  ·rw [a1U (by omega),dO];rfl
open Go.SX Go.SW Go.Dt
open Classical in
open Classical in
open Classical in
open Classical in
open Classical in
theorem mk_ok {α:Type} {z:α} {n:Nat} (h:n<=1000000000):mk z (n:Int)=some (List.replicate n z):=by
 unfold mk;rw [a1V (by omega)];simp
open Classical in
open Go.SX Go.SW Go.Dt
def many (op:Int):Int:=if op=8\/op=13\/op=15 then 2 else if op=1\/op=2\/op=9\/op=10\/op=11\/op=12 then 1 else 0
structure okI (dl len:Nat) (n:Int) (i:AI):Prop where
 op:1<=i.Op/\i.Op<=16
 a:0<many i.Op\/i.A=0
 b:1<many i.Op\/i.B=0
 int:i.Op=1-> -1000000000<=i.A/\i.A<=1000000000
 send:i.Op=8->0<=i.B/\i.B<=3
 jump:i.Op=9\/i.Op=10->n<i.A/\i.A<(len:Int)
 df:i.Op=11->i.A<(dl:Int)
 pos:i.Op≠1->0<=i.A/\0<=i.B
def inI (len:Nat) (i:AI):Prop:=i.Op=13\/i.Op=15->i.B<(len:Int)
def right (dl len:Nat) (i:AI):Prop:=if i.Op=1 then -1000000000<=i.A/\i.A<=1000000000 else if i.Op=2\/i.Op=12 then 0<=i.A else if i.Op=8 then 0<=i.A/\0<=i.B/\i.B<=3 else if i.Op=11 then 0<=i.A/\i.A<(dl:Int) else if i.Op=13\/i.Op=15 then 0<=i.A/\0<=i.B/\i.B<(len:Int) else True
theorem aFI {dl len:Nat} {n:Int} {i:AI} (hn:0<=n):okI dl len n i/\inI len i ↔ (1<=i.Op/\i.Op<=16)/\right dl len i/\(0<many i.Op\/i.A=0)/\(1<many i.Op\/i.B=0)/\(i.Op=9\/i.Op=10->n<i.A/\i.A<(len:Int)):=by
 obtain⟨op,A,B⟩:=i
 constructor
 ·rintro⟨h,h2⟩
  refine⟨h.op,?_,h.a,h.b,h.jump⟩;unfold inI at h2;have h3:=h.int;have h4:=h.send;have h5:=h.df;have h6:=h.pos
  unfold right;simp only at *
  repeat' split
  all_goals first | trivial | omega
 ·rintro⟨h1,h2,h3,h4,h5⟩
  unfold right at h2;unfold many at h3 h4;simp only at *
  refine⟨⟨h1,by unfold many;exact h3,by unfold many;exact h4,?_,?_,h5,?_,?_⟩,?_⟩
  all_goals simp only [inI]
  all_goals intro g
  all_goals (repeat' split at h2) <;> (repeat' split at h3) <;> (repeat' split at h4) <;> omega
open Classical in
theorem kindOf {op:Int} (h:1<=op/\op<=16):∃ y,idx aAP op=some y/\y.many=many op/\∀ (x:AV) (a b:Int),aBC y.right x ⟨op,a,b⟩=some (x,decide (right x.AC.AE.length x.AC.Code.length ⟨op,a,b⟩)):=by
 have hx:∀ x:AV,(⟨(⟨x.AC.AF,x.AC.AE,x.AC.Code,x.AC.AG⟩:AC),x.Ae,x.last,x.AR,x.Ad⟩:AV)=x:=fun ⟨⟨_,_,_,_⟩,_,_,_,_⟩=>rfl
 have k1:∀ (x:AV) (i:AI),vY x i=some (x,decide (-1000000000<=i.A/\i.A<=1000000000)):=fun x i=>by
  rw [vY,hx];by_cases h:-1000000000<=i.A
  ·rw [a1V h,bsm];simp [h]
  ·rw [a1U h,bsm];simp [h]
 have k2:∀ (x:AV) (i:AI),wC x i=some (x,decide (0<=i.A/\0<=i.B/\i.B<=3)):=fun x i=>by
  rw [wC,hx];by_cases h:0<=i.A
  ·rw [a1V h];by_cases h2:0<=i.B
   ·rw [a1V h2,bsm];simp [h,h2]
   ·rw [a1U h2,bsm];simp [h2]
  ·rw [a1U h,bsm];simp [h]
 have k3:∀ (x:AV) (i:AI),aAa x i=some (x,decide (0<=i.A/\i.A<(x.AC.AE.length:Int))):=fun x i=>by
  rw [aAa,hx];by_cases h:0<=i.A
  ·rw [a1V h,bsm];simp [h]
  ·rw [a1U h,bsm];simp [h]
 have k4:∀ (x:AV) (i:AI),yM x i=some (x,decide (0<=i.A/\0<=i.B/\i.B<(x.AC.Code.length:Int))):=fun ⟨⟨F,D,C,M⟩,b,la,lv,td⟩ i=>by
  rw [yM];by_cases h:0<=i.A
  ·rw [a1V h,qG,bsm,bsm];simp [h]
  ·rw [a1U h,bsm];simp [h]
 have k5:∀ (x:AV) (i:AI),zS x i=some (x,decide (0<=i.A/\0<=i.B/\i.B<(x.AC.Code.length:Int))):=fun ⟨⟨F,D,C,M⟩,b,la,lv,td⟩ i=>by
  rw [zS];by_cases h:0<=i.A
  ·rw [a1V h,qG,bsm,bsm];simp [h]
  ·rw [a1U h,bsm];simp [h]
 have ks:∀ (x:AV) (i:AI),xU x i=some (x,decide (0<=i.A)):=fun x i=>by rw [xU,hx]
 have ko:∀ (x:AV) (i:AI),vP x i=some (x,true):=fun x i=>by rw [vP,hx]
 have hc:op=1\/op=2\/op=3\/op=4\/op=5\/op=6\/op=7\/op=8\/op=9\/op=10\/op=11\/op=12\/op=13\/op=14\/op=15\/op=16:=by omega
 rcases hc with rfl | rfl | rfl | rfl | rfl | rfl | rfl | rfl | rfl | rfl | rfl | rfl | rfl | rfl | rfl | rfl <;> refine⟨_,rfl,rfl,fun x a b=>?_⟩
 ·exact(k1 x _).trans (by simp [right])
 ·exact(ks x _).trans (by simp [right])
 ·exact(ko x ⟨3,a,b⟩).trans (by simp [right])
 ·exact(ko x ⟨4,a,b⟩).trans (by simp [right])
 ·exact(ko x ⟨5,a,b⟩).trans (by simp [right])
 ·exact(ko x ⟨6,a,b⟩).trans (by simp [right])
 ·exact(ko x ⟨7,a,b⟩).trans (by simp [right])
 ·exact(k2 x _).trans (by simp [right])
 ·exact(ko x ⟨9,a,b⟩).trans (by simp [right])
 ·exact(ko x ⟨10,a,b⟩).trans (by simp [right])
 ·exact(k3 x _).trans (by simp [right])
 ·exact(ks x _).trans (by simp [right])
 ·exact(k4 x _).trans (by simp [right])
 ·exact(ko x ⟨14,a,b⟩).trans (by simp [right])
 ·exact(k5 x _).trans (by simp [right])
 ·exact(ko x ⟨16,a,b⟩).trans (by simp [right])
def iZ (dl len:Nat):Nat->List AI->Prop
 | _,[]=>True
 | n,i :: l=>(okI dl len n i/\inI len i)/\iZ dl len (n+1) l
def iB:List Int->List AI->Prop
 | _,[]=>True
 | ds,i :: l=>(i.Op=11->i.A ∉ ds)/\iB (if i.Op=11 then ds++[i.A] else ds) l
def iN:List Int->List AI->List Int
 | ds,[]=>ds
 | ds,i :: l=>iN (if i.Op=11 then ds++[i.A] else ds) l
theorem aCD:∀ (l:List Int) (g:aE Int Bool) (k:Int),(fJ g l).get k=if k∈l then some true else g.get k
 | [],g,k=>by simp [fJ]
 | j :: l,g,k=>by
  show(fJ (g.upd j true) l).get k=_
  rw [aCD l];by_cases h:k∈l
  ·rw [a1V h,a1V (.tail _ h)]
  ·rw [a1U h];by_cases e:k=j
   ·subst e;rw [a1V (.head _)];simp [aE.upd]
   ·rw [a1U (by simp [e,h])];simp [aE.upd,e]
theorem aEL (g:aE Int Bool) (l:List Int) (j:Int):fJ g (l++[j])=(fJ g l).upd j true:=by simp [fJ]
theorem known_eq (a:Int):zP a=some (decide (1<=a/\a<=16)):=by
 rw [zP]
 by_cases h:1<=a
 ·rw [a1V h,bsm];simp [h]
 ·rw [a1U h,bsm];simp [h]
theorem bb {α γ δ:Type} {T:Option α} {G:α->Option γ} {G':γ->Option δ} {z:α} {r:Option δ} (h:T=some z) (k:(G z).bind G'=r):(T.bind G).bind G'=r:=by rw [h,bsm];exact k
open Classical in
theorem pi1 {F M:Int} {D:List AN} {b la td:List Int} {lv:aE Int AM} {x0:AV} (AD:List AI):∀ (AB:List AI) (k:Nat) (ds:List Int),x0.AC.Code=AB++AD->AD.length<k->AB.length+AD.length<=3000000->(fJ aE.none ds).size=ds.length ->
 pD x0 k AB.length F D (AB++AD) M b la lv td (fJ aE.none ds)=some (if iZ D.length (AB++AD).length AB.length AD/\iB ds AD then .inl (F,D,AB++AD,M,b,la,lv,td,fJ aE.none (iN ds AD)) else .inr (.inr W))/\(iB ds AD->(fJ aE.none (iN ds AD)).size=(iN ds AD).length):=by
 induction AD with
 | nil=>
  intro AB k ds hx hk _ hs;obtain _ | k:=k
  ·omega
  exact⟨by rw [pD,hx,a1U (by simp),a1V ⟨trivial,trivial⟩];rfl,fun _=>hs⟩
 | cons e AD ih=>
  intro AB k ds hx hk hB hs;obtain _ | k:=k
  ·omega
  simp only [a0M]at hk hB;have hle:(AB++[e]).length=AB.length+1:=by simp
  have hsn:AB++e :: AD=(AB++[e])++AD:=snoc AB AD e;have hrest:∀ ds',(fJ aE.none ds').size=ds'.length->(okI D.length (AB++e :: AD).length AB.length e/\inI (AB++e :: AD).length e)->(e.Op=11->e.A ∉ ds)->ds'=(if e.Op=11 then ds++[e.A] else ds) ->
   ((chk ((AB.length:Int)+1)).bind fun z=>pD x0 k z F D (AB++e :: AD) M b la lv td (fJ aE.none ds'))=some (if iZ D.length (AB++e :: AD).length AB.length (e :: AD)/\iB ds (e :: AD)then .inl (F,D,AB++e :: AD,M,b,la,lv,td,fJ aE.none (iN ds (e :: AD))) else .inr (.inr W)):=by
   intro ds' h1 h2 h3 h4;have:=(ih (AB++[e]) k ds' (by rw [hx,hsn]) (by omega) (by simp;omega) h1).1
   rw [cU (by omega),bsm,gH,hsn,this,hle];congr 1
   subst h4;rw [hsn]at h2;by_cases g:iZ D.length (AB++[e]++AD).length (AB.length+1) AD/\iB (if e.Op=11 then ds++[e.A] else ds) AD
   ·rw [a1V g,a1V (show iZ D.length (AB++[e]++AD).length AB.length (e :: AD)/\iB ds (e :: AD)from⟨⟨h2,g.1⟩,h3,g.2⟩)];rfl
   ·rw [a1U g,a1U (fun q:iZ D.length (AB++[e]++AD).length AB.length (e :: AD)/\iB ds (e :: AD)=>g ⟨q.1.2,q.2.2⟩)]
  have hsz:e.A ∉ ds->(fJ aE.none (ds++[e.A])).size=(ds++[e.A]).length:=fun h=>by
   rw [aEL];have:((fJ aE.none ds).get e.A).isSome=false:=by rw [aCD,a1U h];rfl
   simp [aE.upd,this,hs]
  refine⟨?_,fun h=>?_⟩
  ·rw [pD,hx,a1V (fR _ _ _),fD];simp only [bsm];rw [known_eq,bsm];have hneg:¬ (okI D.length (AB++e :: AD).length AB.length e/\inI (AB++e :: AD).length e)->(some (if iZ D.length (AB++e :: AD).length AB.length (e :: AD)/\iB ds (e :: AD)then .inl (F,D,AB++e :: AD,M,b,la,lv,td,fJ aE.none (iN ds (e :: AD))) else .inr (.inr W)):Option ((Int × List AN × List AI × Int × List Int × List Int × aE Int AM × List Int × aE Int Bool) ⊕ (AV ⊕ Value)))=some (.inr (.inr W)):=fun g=>by
    rw [a1U (fun q=>g q.1.1)]
   rw [aFI (by omega)]at hneg;by_cases h1:1<=e.Op/\e.Op<=16
   ·obtain⟨y,y1,y2,y3⟩:=kindOf h1;rw [a1S h1,fA,bsm];simp only [y1,bsm,y3,y2];by_cases h2:right D.length (AB++e :: AD).length e
    ·rw [a1S (show right D.length (AB++e :: AD).length ⟨e.Op,e.A,e.B⟩from h2),a1Q];by_cases h3:(0<many e.Op\/e.A=0)/\(1<many e.Op\/e.B=0)
     ·refine bb (z:= .inl (F,D,AB++e :: AD,M,b,la,lv,td)) ?_ ?_
      ·by_cases m0:0<many e.Op
       ·rw [a1V m0];by_cases m1:1<many e.Op
        ·rw [a1V m1]
        ·rw [a1U m1,a1S (h3.2.resolve_left m1),fA,bsm]
       ·rw [a1U m0,a1V (h3.1.resolve_left m0)];by_cases m1:1<many e.Op
        ·rw [a1V m1]
        ·rw [a1U m1,a1S (h3.2.resolve_left m1),fA,bsm]
      dsimp only
      by_cases h4:e.Op=9\/e.Op=10->(AB.length:Int)<e.A/\e.A<((AB++e :: AD).length:Int)
      ·have hok:=(aFI (by omega)).2 ⟨h1,h2,h3.1,h3.2,h4⟩
       refine bb (z:= .inl ()) ?_ ?_
       ·by_cases o9:e.Op=9
        ·rw [a1V o9,a1V (h4 (.inl o9)).1,a1S (h4 (.inl o9)).2,fA,bsm]
        ·rw [a1U o9];by_cases o10:e.Op=10
         ·rw [a1V o10,a1V (h4 (.inr o10)).1,a1S (h4 (.inr o10)).2,fA,bsm]
         ·rw [a1U o10]
       dsimp only
       by_cases h6:e.Op=11
       ·rw [a1V h6,aCD];by_cases h7:e.A∈ds
        ·rw [a1V h7];simp only [a1G,a0l,dO,bsm];rw [a1U (fun q=>q.2.1 h6 h7)]
        ·rw [a1U h7];have hg:(aE.none:aE Int Bool).get e.A=none:=rfl;simp only [hg,Option.getD_none,a0k,fA,bsm];rw [<- aEL];exact hrest _ (hsz h7) hok (fun _=>h7) (by rw [a1V h6])
       ·rw [a1U h6,bsm];exact hrest _ hs hok (fun g=>absurd g h6) (by rw [a1U h6])
      ·rw [hneg (fun q=>h4 q.2.2.2.2)];have o:e.Op=9\/e.Op=10:=Classical.byContradiction fun g=>h4 fun q=>absurd q g
       have h5:¬ ((AB.length:Int)<e.A/\e.A<((AB++e :: AD).length:Int)):=fun g=>h4 fun _=>g
       rcases o with o | o
       ·rw [a1V o];by_cases q:(AB.length:Int)<e.A
        ·rw [a1V q,a1R (fun w=>h5 ⟨q,w⟩),dO];rfl
        ·rw [a1U q,dO];rfl
       ·rw [a1U (by omega),a1V o];by_cases q:(AB.length:Int)<e.A
        ·rw [a1V q,a1R (fun w=>h5 ⟨q,w⟩),dO];rfl
        ·rw [a1U q,dO];rfl
     ·rw [hneg (fun q=>h3 ⟨q.2.2.1,q.2.2.2.1⟩)];by_cases m0:0<many e.Op
      ·rw [a1V m0];have m1:¬ 1<many e.Op:=fun q=>h3 ⟨.inl m0, .inl q⟩
       rw [a1U m1,a1R (fun q=>h3 ⟨.inl m0, .inr q⟩),dO];rfl
      ·rw [a1U m0];by_cases a0:e.A=0
       ·rw [a1V a0];have m1:¬ 1<many e.Op:=fun q=>h3 ⟨.inr a0, .inl q⟩
        rw [a1U m1,a1R (fun q=>h3 ⟨.inr a0, .inr q⟩),dO];rfl
       ·rw [a1U a0,dO];rfl
    ·rw [hneg (fun q=>h2 q.2.1),a1R (show ¬ right D.length (AB++e :: AD).length ⟨e.Op,e.A,e.B⟩from h2),dO];rfl
   ·rw [hneg (fun q=>h1 q.1),a1R h1,dO];rfl
  ·by_cases h6:e.Op=11
   ·have:=(ih (AB++[e]) k (ds++[e.A]) (by rw [hx,hsn]) (by omega) (by simp;omega) (hsz (h.1 h6))).2
    simp only [iB,iN,a1V h6]at h ⊢;exact this h.2
   ·have:=(ih (AB++[e]) k ds (by rw [hx,hsn]) (by omega) (by simp;omega) hs).2
    simp only [iB,iN,a1U h6]at h ⊢;exact this h.2
open Classical in
theorem aJ6 {AA:Nat} {x:AV} (hf:4000000<=AA) (hc:x.AC.Code.length<=2000000):
 wR AA x=some (if (iZ x.AC.AE.length x.AC.Code.length 0 x.AC.Code/\iB [] x.AC.Code)/\(iN [] x.AC.Code).length=x.AC.AE.length then .inl x else .inr W):=by
 obtain⟨⟨F,D,C,M⟩,b,la,lv,td⟩:=x
 simp only at hc
 obtain⟨e1,e2⟩:=pi1 (F:=F) (M:=M) (D:=D) (b:=b) (la:=la) (td:=td) (lv:=lv) (x0:=⟨⟨F,D,C,M⟩,b,la,lv,td⟩) C [] AA [] rfl (by omega) (by simp;omega) rfl
 simp only [a1l,a0O,a0n]at e1
 have e3:fJ aE.none []=aE.none:=rfl
 rw [e3]at e1
 rw [wR,aB7,bsm]
 dsimp only
 rw [e1]
 by_cases h:iZ D.length C.length 0 C/\iB [] C
 ·rw [a1V h,bsm];dsimp only
  rw [e2 h.2];by_cases h2:(iN [] C).length=D.length
  ·rw [a1S (by omega),fA,bsm,a1V ⟨h,h2⟩]
  ·rw [a1R (by omega),dO,bsm,a1U (fun g=>h2 g.2)]
 ·rw [a1U h,bsm,a1U (fun g=>h g.1)]
open Go.SX Go.SW Go.Dt
theorem b1 {α γ:Type} {T:Option α} {G:α->Option γ} {z:α} {r:Option γ} (h:T=some z) (k:G z=r):T.bind G=r:=by rw [h,bsm];exact k
def qM (C:List AI) (n:Nat) (i:AI):Prop:=i.Op=9\/i.Op=10->∀ k:Nat,n<=k->(k:Int)<i.A->∀ j,C[k]? =some j->j.Op≠16
open Classical in
open Classical in
open Classical in
open Classical in
open Go.SX Go.SW Go.Dt
def bgD (d:AN):List Int:=d.AO.map (·.AU)++d.AP.map (·.AU)
def isOn (i:AI):Bool:=decide (i.Op=13\/i.Op=15)
def onB:List AI->List Int
 | []=>[]
 | i :: l=>(if isOn i=true then [i.B] else [])++onB l
def bgs (c:AC):List Int:=c.AG :: (c.AE.flatMap bgD++onB c.Code)
theorem aGH:∀ l:List AI,(onB l).length<=l.length
 | []=>a1A _
 | i :: l=>by have:=aGH l;simp only [onB,a0L,a0M];split <;> simp <;> omega
structure SmB (c:AC):Prop where
 code:c.Code.length<=2000000
 Aa:c.AE.length<=12
 parts:∀ d∈c.AE,d.AO.length<=30/\d.AP.length<=30
theorem aEj {l:List AN} (h:∀ d∈l,d.AO.length<=30/\d.AP.length<=30):(l.flatMap bgD).length<=l.length*60:=by
 induction l with
 | nil=>simp
 | cons d l ih=>
  have:=ih fun x hx=>h x (.tail _ hx)
  have:=h d (.head _);simp only [a0z,a0L,a0M,bgD,a0N];omega
theorem SmB.len {c:AC} (h:SmB c):(bgs c).length<=2001000:=by
 have h1:=aEj h.parts
 have h2:=aGH c.Code
 have h3:=h.code
 have h4:=h.Aa
 simp only [bgs,a0M,a0L];omega
theorem on_eq (a:Int):oM a=some (decide (a=13\/a=15)):=by
 rw [oM]
 by_cases h:a=13
 ·rw [a1V h,bsm];simp [h]
 ·rw [a1U h,bsm];simp [h]
theorem pb2 {y:AN} (AD:List Al):∀ (AB:List Al) (k:Nat) (acc:List Int),y.AO=AB++AD->AD.length<k->AB.length+AD.length<=3000000->acc.length+AD.length<=4000000->qP y k acc AB.length=some (acc++AD.map (·.AU)):=by
 induction AD with
 | nil=>
  intro AB k acc h hk _ _;obtain _ | k:=k
  ·omega
  rw [qP,h,a1U (by simp)];simp
 | cons e AD ih=>
  intro AB k acc h hk hB hA;obtain _ | k:=k
  ·omega
  simp only [a0M]at hk hB hA;rw [qP,h,a1V (fR _ _ _),fD,bsm,yN (by simp;omega),bsm,cU (by omega),bsm,gH AB e,ih (AB++[e]) k _ (by rw [h];simp) (by omega) (by simp;omega) (by simp;omega)];simp
theorem pb3 {y:AN} (AD:List As):∀ (AB:List As) (k:Nat) (acc:List Int),y.AP=AB++AD->AD.length<k->AB.length+AD.length<=3000000->acc.length+AD.length<=4000000->sO y k acc AB.length=some (acc++AD.map (·.AU)):=by
 induction AD with
 | nil=>
  intro AB k acc h hk _ _;obtain _ | k:=k
  ·omega
  rw [sO,h,a1U (by simp)];simp
 | cons e AD ih=>
  intro AB k acc h hk hB hA;obtain _ | k:=k
  ·omega
  simp only [a0M]at hk hB hA;rw [sO,h,a1V (fR _ _ _),fD,bsm,yN (by simp;omega),bsm,cU (by omega),bsm,gH AB e,ih (AB++[e]) k _ (by rw [h];simp) (by omega) (by simp;omega) (by simp;omega)];simp
theorem pb1 {AA:Nat} {c:AC} (hf:4000000<=AA) (AD:List AN):∀ (AB:List AN) (k:Nat) (acc:List Int),c.AE=AB++AD->AD.length<k->AB.length+AD.length<=12->acc.length+AD.length*60<=3000000->(∀ d∈AD,d.AO.length<=30/\d.AP.length<=30)->qV AA c k acc AB.length=some (acc++AD.flatMap bgD):=by
 induction AD with
 | nil=>
  intro AB k acc h hk _ _ _;obtain _ | k:=k
  ·omega
  rw [qV,h,a1U (by simp)];simp
 | cons e AD ih=>
  intro AB k acc h hk hB hA hp;obtain _ | k:=k
  ·omega
  simp only [a0M]at hk hB hA;have he:=hp e (.head _);have e1:=pb2 (y:=e) e.AO [] AA acc rfl (by omega) (by simp;omega) (by omega)
  have e2:=pb3 (y:=e) e.AP [] AA (acc++e.AO.map (·.AU)) rfl (by omega) (by simp;omega) (by simp;omega)
  simp only [a0O,a0n]at e1 e2;rw [qV,h,a1V (fR _ _ _),fD,bsm,e1,bsm,e2,bsm,cU (by omega),bsm,gH AB e,ih (AB++[e]) k _ (by rw [h];simp) (by omega) (by simp;omega) (by simp;omega) (fun d hd=>hp d (.tail _ hd))];simp [bgD]
theorem pb4 {c:AC} (AD:List AI):∀ (AB:List AI) (k:Nat) (acc:List Int),c.Code=AB++AD->AD.length<k->AB.length+AD.length<=3000000->acc.length+AD.length<=4000000->sB c k acc AB.length=some (acc++onB AD):=by
 induction AD with
 | nil=>
  intro AB k acc h hk _ _;obtain _ | k:=k
  ·omega
  rw [sB,h,a1U (by simp)];simp [onB]
 | cons e AD ih=>
  intro AB k acc h hk hB hA;obtain _ | k:=k
  ·omega
  simp only [a0M]at hk hB hA;rw [sB,h,a1V (fR _ _ _),fD,bsm,on_eq,bsm];by_cases ho:e.Op=13\/e.Op=15
  ·have hi:isOn e=true:=a1S ho;rw [a1S ho,a1Q,yN (by simp;omega),bsm,bsm,cU (by omega),bsm,gH AB e,ih (AB++[e]) k _ (by rw [h];simp) (by omega) (by simp;omega) (by simp;omega)];simp only [onB,a1V hi,a0q]
  ·have hi:¬ isOn e=true:=by unfold isOn;rw [a1R ho];simp
   rw [a1R ho,a1P,bsm,cU (by omega),bsm,gH AB e,ih (AB++[e]) k _ (by rw [h];simp) (by omega) (by simp;omega) (by omega)];simp only [onB,a1U hi,a1l]
theorem aJN {AA:Nat} {c:AC} (hf:4000000<=AA) (h:SmB c):xK AA c=some (bgs c):=by
 have h1:=aEj h.parts
 have h3:=h.code
 have h4:=h.Aa
 have e1:=pb1 (AA:=AA) (c:=c) hf c.AE [] AA [c.AG] rfl (by omega) (by simp;omega) (by simp;omega) h.parts
 have e2:=pb4 (c:=c) c.Code [] AA ([c.AG]++c.AE.flatMap bgD) rfl (by omega) (by simp;omega) (by simp only [a0L,a0M,a0O];omega)
 simp only [a0O,a0n]at e1 e2
 rw [xK,e1,bsm,e2,bsm]
 simp [bgs]
def stA:Nat->Bool->List AI->List Int
 | _,_,[]=>[]
 | p,fr,i :: l=>(if fr=true then [(p:Int)] else [])++stA (p+1) (decide (i.Op=16)) l
def jC:List AI->Bool
 | []=>true
 | [i]=>decide (i.Op=16)
 | _ :: l=>jC l
theorem stA_ge:∀ (l:List AI) (p:Nat) (fr:Bool),∀ x∈stA p fr l,(p:Int)<=x/\x<((p+l.length:Nat):Int)
 | [],_,_,x,h=>by cases h
 | i :: l,p,fr,x,h=>by
  simp only [stA,a1a]at h;simp only [a0M];rcases h with h | h
  ·split at h
   ·rw [a1k.1 h];omega
   ·cases h
  ·have:=stA_ge l _ _ x h;omega
theorem aCs:∀ (l:List AI) (p:Nat) (fr:Bool),(stA p fr l).Pairwise (fun a b=>a<b)
 | [],_,_=> .nil
 | i :: l,p,fr=>by
  simp only [stA];refine a1o.2 ⟨by split <;> simp,aCs l _ _,fun a ha b hb=>?_⟩
  have:=(stA_ge l _ _ b hb).1;split at ha
  ·rw [a1k.1 ha];omega
  ·cases ha
theorem aFx:∀ (l:List AI) (p:Nat) (fr:Bool) (x:Int),x∈stA p fr l ↔ ∃ i:Nat,i<l.length/\x=((p+i:Nat):Int)/\((i=0/\fr=true)\/∃ j q,i=j+1/\l[j]? =some q/\q.Op=16)
 | [],_,_,x=>by simp [stA]
 | e :: l,p,fr,x=>by
  simp only [stA,a1a,aFx l];constructor
  ·rintro(h | ⟨i,h1,h2,h3⟩)
   ·split at h
    ·exact⟨0,by simp,by rw [a1k.1 h];simp, .inl ⟨rfl,by assumption⟩⟩
    ·cases h
   ·refine⟨i+1,by simp;omega,by rw [h2];congr 1;omega, .inr ?_⟩
    rcases h3 with⟨rfl,h⟩ | ⟨j,q,rfl,h4,h5⟩
    ·exact⟨0,e,rfl,rfl,of_decide_eq_true h⟩
    ·exact⟨j+1,q,rfl,by simpa using h4,h5⟩
  ·rintro⟨i,h1,h2,h3⟩
   rcases h3 with⟨rfl,rfl⟩ | ⟨j,q,rfl,h4,h5⟩
   ·left;simp [h2]
   ·right
    refine⟨j,by simpa using h1,by rw [h2];congr 1;omega,?_⟩
    cases j with
    | zero=>simp at h4;subst h4;exact .inl ⟨rfl,a1S h5⟩
    | succ j=>exact .inr ⟨j,q,rfl,by simpa using h4,h5⟩
def ends (l:List AI):Nat:=(l.filter fun i=>decide (i.Op=16)).length
theorem aB3:∀ (l:List AI) (p:Nat) (fr:Bool),l≠[]->jC l=true->(stA p fr l).length+(if fr=true then 0 else 1)=ends l
 | [],_,_,h,_=>absurd rfl h
 | [i],p,fr,_,h=>by
  have h:decide (i.Op=16)=true:=h;simp only [stA,ends,List.filter,h];split <;> simp
 | i :: j :: l,p,fr,_,h=>by
  have ih:=aB3 (j :: l) (p+1) (decide (i.Op=16)) (by simp) h
  have he:ends (i :: j :: l)=(if i.Op=16 then 1 else 0)+ends (j :: l):=by
   unfold ends;rw [List.filter_cons];by_cases g:i.Op=16
   ·rw [a1V (by simpa using g),a1V g];simp;omega
   ·rw [a1U (by simpa using g),a1U g];simp
  have hs:(stA p fr (i :: j :: l)).length=(if fr=true then 1 else 0)+(stA (p+1) (decide (i.Op=16)) (j :: l)).length:=by
   rw [stA,a0L];split <;> rfl
  rw [he,hs,<- ih];by_cases g:i.Op=16
  ·simp only [g,decide_true,if_true];split <;> omega
  ·simp only [g,decide_false,if_false];split <;> simp <;> omega
theorem aHB:∀ {l m:List Int},l.Perm m->l.Pairwise (fun a b=>a<=b)->m.Pairwise (fun a b=>a<=b)->l=m
 | [],m,h,_,_=>by rw [List.nil_perm.1 h]
 | a :: l,[],h,_,_=>by have:=h.length_eq;simp at this
 | a :: l,b :: m,h,h1,h2=>by
  have hab:a=b:=by
   have g1:a∈b :: m:=h.mem_iff.1 (.head _);have g2:b∈a :: l:=h.mem_iff.2 (.head _);have k1:=a1p.1 h1;have k2:=a1p.1 h2;cases g1 with
   | head=>rfl
   | tail _ g1=>
    cases g2 with
    | head=>rfl
    | tail _ g2=>have:=k1.1 b g2;have:=k2.1 a g1;omega
  subst hab;rw [aHB (List.Perm.cons_inv h) (a1p.1 h1).2 (a1p.1 h2).2]
theorem zA:∀ {l m:List Int},l.Nodup->(∀ x∈l,x∈m)->m.length<=l.length->l.Perm m
 | [],m,_,_,h=>by have:m=[]:=a0w (by simpa using h);rw [this]
 | a :: l,m,hn,hs,hl=>by
  have ha:a∈m:=hs a (.head _);have hp:=List.perm_cons_erase ha;have hn2:=a1n.1 hn;have hlen:=hp.length_eq;simp only [a0M]at hlen hl;have:=zA (l:=l) (m:=m.erase a) hn2.2 (fun x hx=>(List.mem_erase_of_ne (by intro e;subst e;exact hn2.1 hx)).2 (hs x (.tail _ hx))) (by omega)
  exact(this.cons a).trans hp.symm
theorem kJ (l:List Int):(bI l).Perm l:=List.mergeSort_perm _ _
theorem aF6 (l:List Int):(bI l).Pairwise (fun a b=>a<=b):=by
 have:=List.pairwise_mergeSort (le:=fun x y:Int=>decide (x<=y)) (by intro a b c h1 h2;simp only [a1T]at *;omega) (by intro a b;simp;omega) l
 exact this.imp fun h=>by simpa using h
def okB (c:AC):Prop:=c.Code≠[]/\bI (bgs c)=stA 0 true c.Code/\jC c.Code=true
theorem aGK {c:AC} (hne:c.Code≠[]):okB c ↔ (bgs c).Nodup/\(∀ b∈bgs c,0<=b/\b<(c.Code.length:Int)/\(0<b->∃ q,c.Code[(b - 1).toNat]? =some q/\q.Op=16))/\ends c.Code=(bgs c).length/\jC c.Code=true:=by
 have hmem:∀ b:Int,b∈stA 0 true c.Code ↔ 0<=b/\b<(c.Code.length:Int)/\(0<b->∃ q,c.Code[(b - 1).toNat]? =some q/\q.Op=16):=fun b=>by
  rw [aFx];constructor
  ·rintro⟨i,h1,h2,h3⟩
   refine⟨by omega,by omega,fun hb=>?_⟩
   rcases h3 with⟨rfl,_⟩ | ⟨j,q,rfl,h4,h5⟩
   ·omega
   ·refine⟨q,?_,h5⟩;rw [h2,show((((0+(j+1):Nat):Int) - 1).toNat)=j by omega];exact h4
  ·rintro⟨h1,h2,h3⟩
   refine⟨b.toNat,by omega,by omega,?_⟩
   by_cases h0:b=0
   ·left;exact⟨by omega,rfl⟩
   ·obtain⟨q,g1,g2⟩:=h3 (by omega)
    right;exact⟨(b - 1).toNat,q,by omega,g1,g2⟩
 have hsn:(stA 0 true c.Code).Nodup:=(aCs c.Code 0 true).imp fun h=>by omega
 constructor
 ·rintro⟨_,h1,h2⟩
  have hp:(bgs c).Perm (stA 0 true c.Code):=by rw [<- h1];exact(kJ _).symm
  have hl:=aB3 c.Code 0 true hne h2;simp only [if_true,a1w]at hl;exact⟨hp.nodup_iff.2 hsn,fun b hb=>(hmem b).1 (hp.mem_iff.1 hb),by rw [<- hl,hp.length_eq],h2⟩
 ·rintro⟨h1,h2,h3,h4⟩
  have hl:=aB3 c.Code 0 true hne h4;simp only [if_true,a1w]at hl;have hp:(bgs c).Perm (stA 0 true c.Code):=zA h1 (fun b hb=>(hmem b).2 (h2 b hb)) (by omega)
  exact⟨hne,aHB ((kJ _).trans hp) (aF6 _) ((aCs _ _ _).imp fun h=>by omega),h4⟩
open Go.SX Go.SW Go.Dt
theorem aEv {d:Array Int} (hd:∀ i j,i<=j->j<d.size->d[i]! <=d[j]!):∀ m,m<=d.size->(Go.Lib.compactUpTo d m).Pairwise (fun a b=>a<b)/\(∀ a∈Go.Lib.compactUpTo d m,∃ j,j<m/\d[j]! =a)/\(∀ j,j<m->d[j]! ∈Go.Lib.compactUpTo d m)
 | 0,_=>⟨by simp [Go.Lib.compactUpTo],fun a h=>by simp [Go.Lib.compactUpTo]at h,fun j h=>by omega⟩
 | m+1,hm=>by
  obtain⟨h1,h2,h3⟩:=aEv hd m (by omega)
  rw [Go.Lib.compactUpTo_succ];by_cases hk:m=0\/d[m]! ≠d[m - 1]!
  ·rw [a1V (by simpa [Go.Lib.keeps] using hk)];refine⟨a1o.2 ⟨h1,List.pairwise_singleton _ _,fun a ha b hb=>?_⟩,fun a ha=>?_,fun j hj=>?_⟩
   ·rw [a1k.1 hb];obtain⟨j,hj,rfl⟩:=h2 a ha;have q1:=hd j (m - 1) (by omega) (by omega)
    have q2:=hd (m - 1) m (by omega) (by omega)
    rcases hk with hk | hk
    ·omega
    ·omega
   ·rcases a1a.1 ha with q | q
    ·obtain⟨j,hj,e⟩:=h2 a q;exact⟨j,by omega,e⟩
    ·exact⟨m,by omega,(a1k.1 q).symm⟩
   ·by_cases e:j=m
    ·subst e;exact a1c _ (.head _)
    ·exact a1b _ (h3 j (by omega))
  ·rw [a1U (by simpa [Go.Lib.keeps] using hk),a0r];have hk':m≠0/\d[m]! =d[m - 1]! :=⟨fun q=>hk (.inl q),Classical.byContradiction fun q=>hk (.inr q)⟩
   refine⟨h1,fun a ha=>?_,fun j hj=>?_⟩
   ·obtain⟨j,hj,e⟩:=h2 a ha;exact⟨j,by omega,e⟩
   ·by_cases e:j=m
    ·subst e;rw [hk'.2];exact h3 _ (by omega)
    ·exact h3 j (by omega)
theorem aKj (l:List Int):(Go.Lib.compact (bI l)).Nodup/\∀ i,i∈Go.Lib.compact (bI l) ↔ i∈l:=by
 have hs:=aF6 l
 have hd:∀ i j,i<=j->j<(bI l).toArray.size->(bI l).toArray[i]! <=(bI l).toArray[j]! :=fun i j hij hj=>by
  have hj':j<(bI l).length:=by simpa using hj
  have hi':i<(bI l).length:=by omega
  rcases Nat.lt_or_ge i j with h | h
  ·have:=(List.pairwise_iff_getElem.1 hs) i j hi' hj' h;simpa [hi',hj'] using this
  ·have:i=j:=by omega
   subst this;exact Int.le_refl _
 obtain⟨h1,h2,h3⟩:=aEv hd (bI l).length (by simp)
 refine⟨h1.imp fun h=>by omega,fun i=>?_⟩
 have hm:i∈bI l ↔ i∈l:=(kJ l).mem_iff
 rw [<- hm]
 constructor
 ·intro h;obtain⟨j,hj,rfl⟩:=h2 i h;simp [hj]
 ·intro h;obtain⟨j,hj,rfl⟩:=a1f.1 h;have:=h3 j hj;show(bI l)[j]∈Go.Lib.compactUpTo (bI l).toArray (bI l).length
  simpa [hj] using this
theorem aGr (l:List Int):(Go.Lib.compact (bI l)).length=l.length ↔ l.Nodup:=by
 obtain⟨h1,h2⟩:=aKj l
 constructor
 ·intro h;exact(zA h1 (fun x hx=>(h2 x).1 hx) (by omega)).nodup_iff.1 h1
 ·intro h;rcases Nat.le_total (Go.Lib.compact (bI l)).length l.length with g | g
  ·exact(zA h (fun x hx=>(h2 x).2 hx) g).length_eq.symm
  ·exact(zA h1 (fun x hx=>(h2 x).1 hx) g).length_eq
theorem aEJ {e:AI} (he:e.Op=16) (rest:List AI):∀ (AB:List AI) (p:Nat) (fr:Bool),(∀ i∈AB,i.Op≠16)->stA p fr (AB++e :: rest)=(if fr=true then [(p:Int)] else [])++stA (p+AB.length+1) true rest
 | [],p,fr,_=>by simp [stA,he]
 | i :: AB,p,fr,h=>by
  have h1:=h i (.head _);have ih:=aEJ he rest AB (p+1) false fun j hj=>h j (.tail _ hj)
  rw [a0s,stA,a1R h1,ih];simp only [a0M,a0i,if_false,a1l];rw [show p+1+AB.length+1=p+(AB.length+1)+1 by omega]
theorem aCH {e:AI} (he:e.Op=16) (rest:List AI):∀ (AB:List AI),jC (AB++e :: rest)=jC rest
 | []=>by
  cases rest with
  | nil=>simp [jC,he]
  | cons j l=>rfl
 | [i]=>by
  have:=aCH he rest [];rw [<- this];rfl
 | i :: j :: AB=>by
  rw [<- aCH he rest (j :: AB)];rfl
theorem aFT:∀ {l:List AI},l≠[]->(∀ i∈l,i.Op≠16)->jC l=false
 | [],h,_=>absurd rfl h
 | [i],_,h=>a1R (h i (.head _))
 | i :: j :: l,_,h=>aFT (l:=j :: l) (by simp) fun x hx=>h x (.tail _ hx)
theorem aDi:∀ {l:List AI} {i:AI},l[l.length - 1]? =some i->jC l=decide (i.Op=16)
 | [],i,h=>by simp at h
 | [j],i,h=>by simp at h;subst h;rfl
 | j :: k :: l,i,h=>by
  have:=aDi (l:=k :: l) (i:=i) (by simpa using h)
  exact this
def pE (C:List AI) (la:List Int) (m:Nat):Prop:=∀ i:Nat,i<m->∃ q:Nat,la[i]? =some (q:Int)/\i<=q/\q<C.length/\(∃ e,C[q]? =some e/\e.Op=16)/\∀ j:Nat,i<=j->j<q->∀ e,C[j]? =some e->e.Op≠16
theorem bk2 {x:AV} (hB:x.AC.Code.length<=2000000):∀ (k n:Nat),n<=x.AC.Code.length->x.AC.Code.length - n<k->∃ q:Nat,pB x k (n:Int)=some (q:Int)/\n<=q/\q<=x.AC.Code.length/\(∀ j:Nat,n<=j->j<q->∀ e,x.AC.Code[j]? =some e->e.Op≠16)/\(q<x.AC.Code.length->∃ e,x.AC.Code[q]? =some e/\e.Op=16)
 | 0,_,_,hk=>by omega
 | k+1,n,hn,hk=>by
  by_cases h:n<x.AC.Code.length
  ·have hi:=a0E h;by_cases ho:x.AC.Code[n].Op≠16
   ·obtain⟨q,h1,h2,h3,h4,h5⟩:=bk2 hB k (n+1) (by omega) (by omega)
    refine⟨q,?_,by omega,h3,fun j hj hq e he=>?_,h5⟩
    ·rw [pB,a1V (by omega),qL hi,bsm,a1V ho,cU (by omega),bsm];exact h1
    ·by_cases g:j=n
     ·subst g;rw [hi]at he;cases he;exact ho
     ·exact h4 j (by omega) hq e he
   ·refine⟨n,by rw [pB,a1V (by omega),qL hi,bsm,a1U ho],by omega,by omega,fun j _ _=>by omega,fun _=>⟨_,hi,by omega⟩⟩
  ·exact⟨n,by rw [pB,a1U (by omega)],by omega,hn,fun j _ _=>by omega,fun g=>absurd g h⟩
theorem bk3 {q:Nat} (hq:q<=2000000):∀ (k b:Nat) (la:List Int),b<=q+1->q+1 - b<k->q<la.length->∃ la',qS (q:Int) k (b:Int) la=some la'/\la'.length=la.length/\(∀ i:Nat,b<=i->i<=q->la'[i]? =some (q:Int))/\∀ i:Nat,i<b->la'[i]? =la[i]?
 | 0,_,_,_,hk,_=>by omega
 | k+1,b,la,hb,hk,hl=>by
  by_cases h:b<=q
  ·obtain⟨la',h1,h2,h3,h4⟩:=bk3 hq k (b+1) (la.set b (q:Int)) (by omega) (by omega) (by simpa using hl)
   refine⟨la',?_,by rw [h2,a0R],fun i hi hi2=>?_,fun i hi=>?_⟩
   ·rw [qS,a1V (by omega),qL (a0E (by omega:b<la.length)),bsm,cU (by omega),bsm];exact h1
   ·by_cases g:i=b
    ·subst g;rw [h4 i (by omega),List.getElem?_set_self (by omega)]
    ·exact h3 i (by omega) hi2
   ·rw [h4 i (by omega)];rw [a0I (by omega)]
  ·exact⟨la,by rw [qS,a1U (by omega)],rfl,fun i _ _=>by omega,fun _ _=>rfl⟩
theorem drop_run {C:List AI} {p q:Nat} {e:AI} (hpq:p<=q) (he:C[q]? =some e):∃ AB,C.drop p=AB++e :: C.drop (q+1)/\AB.length=q - p/\∀ i∈AB,∃ j,p<=j/\j<q/\C[j]? =some i:=by
 obtain⟨hq,rfl⟩:=a0F.1 he
 refine⟨(C.drop p).take (q - p),?_,by simp;omega,fun i hi=>?_⟩
 ·have h1:C.drop q=C[q] :: C.drop (q+1):=List.drop_eq_getElem_cons hq;rw [<- h1,show C.drop q=(C.drop p).drop (q - p) by rw [List.drop_drop];congr 1;omega,List.take_append_drop]
 ·obtain⟨j,hj,rfl⟩:=a1f.1 hi;have hj':j<q - p:=by simp at hj;omega
  refine⟨p+j,by omega,by omega,?_⟩
  rw [List.getElem_take,List.getElem_drop];exact a0E _
theorem aGI {l:List Int} (h:l.length<=1000000000):nQ l=some l:=by
 rw [nQ,a1l,yN h,bsm]
open Classical in
theorem bk1 {AA:Nat} {x:AV} (hf:4000000<=AA) (hB:x.AC.Code.length<=2000000) (AD:List Int):∀ (AB:List Int) (k p:Nat) (la:List Int),AD.length<k->AB.length+AD.length<=3000000->p<=x.AC.Code.length->la.length=x.AC.Code.length->pE x.AC.Code la p ->
 ∃ r,nO AA x (AB++AD) k (p:Int) (AB.length:Int) la=some r/\(((AD=stA p true (x.AC.Code.drop p)/\jC (x.AC.Code.drop p)=true)/\∃ la',r= .inl ((x.AC.Code.length:Int),la')/\la'.length=x.AC.Code.length/\pE x.AC.Code la' x.AC.Code.length)\/(¬ (AD=stA p true (x.AC.Code.drop p)/\jC (x.AC.Code.drop p)=true)/\(r= .inr (.inr W)\/∃ (p':Nat) (la':List Int),r= .inl ((p':Int),la')/\p'≠x.AC.Code.length))):=by
 induction AD with
 | nil=>
  intro AB k p la hk _ hp hl hla;obtain _ | k:=k
  ·omega
  refine⟨_,by rw [nO,a1U (by simp)],?_⟩
  by_cases h:p=x.AC.Code.length
  ·left
   refine⟨?_,la,by rw [h],hl,by rw [<- h];exact hla⟩
   rw [h,List.drop_length];exact⟨rfl,rfl⟩
  ·right
   refine⟨fun g=>?_, .inr ⟨p,la,rfl,h⟩⟩
   have hlt:p<x.AC.Code.length:=by omega
   rw [List.drop_eq_getElem_cons hlt]at g;have:=g.1;simp [stA]at this
 | cons b AD ih=>
  intro AB k p la hk hl0 hp hl hla;obtain _ | k:=k
  ·omega
  simp only [a0M]at hk hl0;by_cases hbp:b=(p:Int)
  ·subst hbp;obtain⟨q,h1,h2,h3,h4,h5⟩:=bk2 (x:=x) hB AA p hp (by omega)
   by_cases hq:q<x.AC.Code.length
   ·obtain⟨e,he1,he2⟩:=h5 hq;obtain⟨la',g1,g2,g3,g4⟩:=bk3 (q:=q) (by omega) AA p la (by omega) (by omega) (by omega)
    obtain⟨run,r1,r2,r3⟩:=drop_run h2 he1;have hrun:∀ i∈run,i.Op≠16:=fun i hi=>by obtain⟨j,j1,j2,j3⟩:=r3 i hi;exact h4 j j1 j2 i j3
    have hst:stA p true (x.AC.Code.drop p)=(p:Int) :: stA (q+1) true (x.AC.Code.drop (q+1)):=by
     rw [r1,aEJ he2 _ run p true hrun,a1V rfl,show p+run.length+1=q+1 by omega];rfl
    have hle:jC (x.AC.Code.drop p)=jC (x.AC.Code.drop (q+1)):=by rw [r1,aCH he2]
    have hla':pE x.AC.Code la' (q+1):=fun i hi=>by
     by_cases hip:i<p
     ·obtain⟨q',a1,a2⟩:=hla i hip;exact⟨q',by rw [g4 i hip];exact a1,a2⟩
     ·exact⟨q,g3 i (by omega) (by omega),by omega,hq,⟨e,he1,he2⟩,fun j j1 j2=>h4 j (by omega) j2⟩
    obtain⟨r,i1,i2⟩:=ih (AB++[(p:Int)]) k (q+1) la' (by omega) (by simp;omega) (by omega) (by omega) hla'
    refine⟨r,?_,?_⟩
    ·rw [nO,a1V (fR _ _ _),fD];refine bb rfl ?_;refine bb (z:= .inl ()) (by rw [a1S rfl];rfl) ?_
     refine bb h1 ?_;refine bb (z:= .inl ()) (by rw [a1S (by omega)];rfl) ?_
     refine bb g1 ?_;refine bb (cU (by omega)) ?_
     refine b1 rfl ?_;dsimp only
     rw [cU (by omega),bsm,snoc AB AD,gH AB (p:Int)];exact i1
    ·rw [hst,hle];rcases i2 with⟨j1,j2⟩ | ⟨j1,j2⟩
     ·exact .inl ⟨⟨by rw [<- j1.1],j1.2⟩,j2⟩
     ·exact .inr ⟨fun g=>j1 ⟨by simpa using g.1,g.2⟩,j2⟩
   ·refine⟨.inr (.inr W),?_, .inr ⟨fun g=>?_, .inl rfl⟩⟩
    ·rw [nO,a1V (fR _ _ _),fD];refine bb rfl ?_;refine bb (z:= .inl ()) (by rw [a1S rfl];rfl) ?_
     refine bb h1 ?_;refine bb (z:= .inr W) (by rw [a1R (by omega)];rfl) ?_
     rfl
    ·have hne:x.AC.Code.drop p≠[]:=fun g'=>by rw [g']at g;have:=g.1;simp [stA]at this
     rw [aFT hne fun i hi=>by
      obtain⟨j,hj,rfl⟩:=a1f.1 hi;rw [List.getElem_drop];have hj':p+j<x.AC.Code.length:=by simp at hj;omega
      exact h4 (p+j) (by omega) (by omega) _ (a0E hj')]at g
     exact absurd g.2 (by simp)
  ·refine⟨.inr (.inr W),?_, .inr ⟨fun g=>?_, .inl rfl⟩⟩
   ·rw [nO,a1V (fR _ _ _),fD];refine bb rfl ?_;refine bb (z:= .inr W) (by rw [a1R hbp];rfl) ?_
    rfl
   ·cases hd:x.AC.Code.drop p with
    | nil=>rw [hd]at g;have:=g.1;simp [stA]at this
    | cons i l=>rw [hd]at g;have:=g.1;simp [stA]at this;exact hbp this.1
open Classical in
theorem aJp {AA:Nat} {x:AV} (hf:4000000<=AA) (hs:SmB x.AC) (hne:x.AC.Code≠[]):
 ∃ la,mV AA x=some (if okB x.AC then .inl ⟨x.AC,bI (bgs x.AC),la,x.AR,x.Ad⟩ else .inr W)/\(okB x.AC->la.length=x.AC.Code.length/\pE x.AC.Code la x.AC.Code.length):=by
 have hl:=hs.len
 have hsl:=(kJ (bgs x.AC)).length_eq
 have e1:=aJN hf hs
 have hcode:=hs.code
 obtain⟨r,h1,h2⟩:=bk1 (x:=x) hf hcode (bI (bgs x.AC)) [] AA 0 (List.replicate x.AC.Code.length 0) (by omega) (by simp;omega) (by omega) (by simp) (fun i hi=>by omega)
 simp only [a1l,a0O,a0n,List.drop_zero]at h1 h2
 have hdo:∀ (P:Prop),mV AA x=some (.inr W)->¬ okB x.AC->∃ la,mV AA x=some (if okB x.AC then .inl ⟨x.AC,bI (bgs x.AC),la,x.AR,x.Ad⟩ else .inr W)/\(okB x.AC->la.length=x.AC.Code.length/\pE x.AC.Code la x.AC.Code.length):=fun _ g1 g2=>⟨[],by rw [g1,a1U g2],fun g=>absurd g g2⟩
 by_cases hn:(bgs x.AC).Nodup
 ·have hc:=(aGr (bgs x.AC)).2 hn;have hpre:mV AA x=(some r).bind (fun o=>match o with | Sum.inr r=>some r | Sum.inl (x1,x2)=>(cC (decide (x1=(x.AC.Code.length:Int)))).bind fun y12=>match y12 with | Sum.inr pv4=>some (Sum.inr pv4) | Sum.inl y12=>some (Sum.inl (⟨(⟨x.AC.AF,x.AC.AE,x.AC.Code,x.AC.AG⟩:AC),bI (bgs x.AC),x2,x.AR,x.Ad⟩:AV))):=by
   rw [mV];refine b1 e1 ?_;refine b1 (z:=bI (bgs x.AC)) rfl ?_;refine b1 (aGI (by omega)) ?_
   refine b1 (z:=Go.Lib.compact (bI (bgs x.AC))) rfl ?_;refine b1 (z:= .inl ()) (by rw [a1S (by omega)];rfl) ?_
   refine b1 (mk_ok (by omega)) ?_
   rw [h1];rcases r with⟨a,b⟩ | r <;> rfl
  rcases h2 with⟨k1,la,k2,k3,k4⟩ | ⟨k1,k2⟩
  ·have hok:okB x.AC:=⟨hne,k1⟩;refine⟨la,?_,fun _=>⟨k3,k4⟩⟩
   rw [hpre,k2,bsm,a1V hok];refine b1 (z:= .inl ()) (by rw [a1S rfl];rfl) ?_
   rfl
  ·have hok:¬ okB x.AC:=fun g=>k1 g.2
   refine hdo True ?_ hok;rw [hpre];rcases k2 with rfl | ⟨p',la',rfl,k3⟩
   ·rfl
   ·rw [bsm];refine b1 (z:= .inr W) (by rw [a1R (by omega)];rfl) ?_
    rfl
 ·have hok:¬ okB x.AC:=fun g=>hn ((aGK hne).1 g).1
  refine hdo True ?_ hok;rw [mV];refine b1 e1 ?_;refine b1 (z:=bI (bgs x.AC)) rfl ?_;refine b1 (aGI (by omega)) ?_
  refine b1 (z:=Go.Lib.compact (bI (bgs x.AC))) rfl ?_;refine b1 (z:= .inr W) (by rw [a1R fun g=>hn ((aGr _).1 (by omega))];rfl) ?_
  rfl
open Classical in
open Classical in
open Go.SX Go.SW Go.Dt
abbrev FT:=Int->Option AM
abbrev SC:=Int->AM->Option (List (Int × AM))
def fup (f:FT) (m:Int) (l:AM):FT:=fun x=>if x=m then some l else f x
open Classical in
noncomputable def psh:FT->List Int->List (Int × AM)->Option (FT × List Int)
 | f,td,[]=>some (f,td)
 | f,td,p :: s=>match f p.1 with
  | some l'=>if l'=p.2 then psh f td s else none
  | none=>psh (fup f p.1 p.2) (td++[p.1]) s
def cnt (f:FT):Nat->Nat
 | 0=>0
 | n+1=>(if (f (n:Int)).isNone=true then 1 else 0)+cnt f n
theorem aDd (f:FT):∀ n,cnt f n<=n
 | 0=>a1A _
 | n+1=>by have:=aDd f n;simp only [cnt];split <;> omega
theorem aFA {f:FT} {m:Int} {l:AM}:∀ n:Nat,(n:Int)<=m->cnt (fup f m l) n=cnt f n
 | 0,_=>rfl
 | n+1,h=>by
  rw [cnt,cnt,aFA n (by omega)];have:fup f m l (n:Int)=f (n:Int):=a1U (by omega)
  rw [this]
theorem cnt_up {f:FT} {m:Int} {l:AM} (hm:0<=m) (hf:f m=none):∀ n:Nat,m<(n:Int)->cnt (fup f m l) n+1=cnt f n
 | 0,h=>by omega
 | n+1,h=>by
  rw [cnt,cnt];by_cases g:m=(n:Int)
  ·have h1:fup f m l (n:Int)=some l:=a1V g.symm;rw [h1,aFA n (by omega),<- g,hf];simp;omega
  ·have h1:fup f m l (n:Int)=f (n:Int):=a1U (Ne.symm g);have:=cnt_up (l:=l) hm hf n (by omega)
   rw [h1];omega
theorem aBK {n:Nat}:∀ (s:List (Int × AM)) (f:FT) (td:List Int) (f':FT) (td':List Int),psh f td s=some (f',td')->(∀ p∈s,0<=p.1/\p.1<(n:Int)) ->
 (∀ m l,f m=some l->f' m=some l)/\(∀ p∈s,f' p.1=some p.2)/\(∀ m l,f' m=some l->f m=some l\/((m,l)∈s/\m∈td'))/\(∀ m∈td,m∈td')/\(∀ m∈td',m∈td\/∃ p∈s,p.1=m)/\cnt f' n+td'.length=cnt f n+td.length
 | [],f,td,f',td',h,_=>by
  simp only [psh,a1M,Prod.mk.injEq]at h;obtain⟨rfl,rfl⟩:=h;exact⟨fun _ _ h=>h,fun p hp=>(by cases hp),fun _ _ h=> .inl h,fun _ h=>h,fun _ h=> .inl h,rfl⟩
 | p :: s,f,td,f',td',h,hr=>by
  have hr':∀ q∈s,0<=q.1/\q.1<(n:Int):=fun q hq=>hr q (.tail _ hq)
  have hp:=hr p (.head _);cases hf:f p.1 with
  | some l'=>
   simp only [psh,hf]at h;by_cases e:l'=p.2
   ·rw [a1V e]at h;obtain⟨a1,a2,a3,a4,a5,a6⟩:=aBK s f td f' td' h hr';refine⟨a1,fun q hq=>?_,fun m l hm=>?_,a4,fun m hm=>?_,a6⟩
    ·cases hq with
     | head=>exact a1 _ _ (by rw [hf,e])
     | tail _ hq=>exact a2 q hq
    ·rcases a3 m l hm with g | ⟨g1,g2⟩
     ·exact .inl g
     ·exact .inr ⟨.tail _ g1,g2⟩
    ·rcases a5 m hm with g | ⟨q,g1,g2⟩
     ·exact .inl g
     ·exact .inr ⟨q, .tail _ g1,g2⟩
   ·rw [a1U e]at h;cases h
  | none=>
   simp only [psh,hf]at h;obtain⟨a1,a2,a3,a4,a5,a6⟩:=aBK s _ _ f' td' h hr';have hpn:f' p.1=some p.2:=a1 _ _ (a1V rfl);have hc:=cnt_up (l:=p.2) hp.1 hf n hp.2;refine⟨fun m l hm=>?_,fun q hq=>?_,fun m l hm=>?_,fun m hm=>a4 m (a1b _ hm),fun m hm=>?_,?_⟩
   ·refine a1 m l ?_;have:m≠p.1:=fun e=>by rw [e,hf]at hm;cases hm
    exact(a1U this).trans hm
   ·cases hq with
    | head=>exact hpn
    | tail _ hq=>exact a2 q hq
   ·rcases a3 m l hm with g | ⟨g1,g2⟩
    ·by_cases e:m=p.1
     ·subst e;rw [hpn]at hm;cases hm
      exact .inr ⟨.head _,a4 _ (by simp)⟩
     ·exact .inl ((a1U e).symm.trans g)
    ·exact .inr ⟨.tail _ g1,g2⟩
   ·rcases a5 m hm with g | ⟨q,g1,g2⟩
    ·rcases a1a.1 g with g | g
     ·exact .inl g
     ·exact .inr ⟨p, .head _,(a1k.1 g).symm⟩
    ·exact .inr ⟨q, .tail _ g1,g2⟩
   ·rw [a6,a0L,a0S];omega
theorem aBS:∀ (s:List (Int × AM)) (f:FT) (td:List Int),psh f td s=none->∃ p∈s,∃ l',l'≠p.2/\(f p.1=some l'\/(p.1,l')∈s)
 | [],f,td,h=>by simp [psh]at h
 | p :: s,f,td,h=>by
  cases hf:f p.1 with
  | some l'=>
   simp only [psh,hf]at h;by_cases e:l'=p.2
   ·rw [a1V e]at h;obtain⟨q,q1,l2,q2,q3⟩:=aBS s f td h;exact⟨q, .tail _ q1,l2,q2,q3.imp id fun g=> .tail _ g⟩
   ·exact⟨p, .head _,l',e, .inl hf⟩
  | none=>
   simp only [psh,hf]at h;obtain⟨q,q1,l2,q2,q3⟩:=aBS s _ _ h;refine⟨q, .tail _ q1,l2,q2,?_⟩;rcases q3 with g | g
   ·by_cases e:q.1=p.1
    ·have:(fup f p.1 p.2) q.1=some p.2:=a1V e;rw [this]at g;cases g
     right;rw [e];exact .head _
    ·left;exact(a1U e).symm.trans g
   ·right;exact .tail _ g
inductive R (sc:SC) (a:Int) (l0:AM):Int->AM->Prop
 | base:R sc a l0 a l0
 | step {n:Int} {l:AM} {s:List (Int × AM)} {p:Int × AM}:R sc a l0 n l->sc n l=some s->p∈s->R sc a l0 p.1 p.2
def Bad (sc:SC) (a:Int) (l0:AM):Prop:=∃ n l,R sc a l0 n l/\(sc n l=none\/∃ l',R sc a l0 n l'/\l'≠l)
def Sane (sc:SC) (n:Nat):Prop:=∀ m l s,0<=m->m<(n:Int)->0<=l.AY->0<=l.Ab->sc m l=some s->∀ p∈s,(0<=p.1/\p.1<(n:Int))/\0<=p.2.AY/\p.2.AY<=l.AY+1000/\0<=p.2.Ab/\p.2.Ab<=l.Ab+1000
structure LvI (sc:SC) (n:Nat) (a:Int) (l0:AM) (f:FT) (td:List Int) (B:Int):Prop where
 has:∀ m∈td,∃ l,f m=some l
 r:∀ m l,f m=some l->R sc a l0 m l/\(0<=m/\m<(n:Int))/\(0<=l.AY/\l.AY<=B)/\(0<=l.Ab/\l.Ab<=B)
 c:∀ m l,f m=some l->m ∉ td->∃ s,sc m l=some s/\∀ p∈s,f p.1=some p.2
 d:f a=some l0
theorem LvI.step {sc:SC} {n:Nat} {a m:Int} {l0 l:AM} {f f':FT} {td td':List Int} {B:Int} {s s':List (Int × AM)} (hs:Sane sc n) (h:LvI sc n a l0 f (td++[m]) B) (hm:f m=some l) (hsc:sc m l=some s) (hss:∀ p,p∈s' ↔ p∈s) (hp:psh f td s'=some (f',td')):
 LvI sc n a l0 f' td' (B+1000)/\cnt f' n+td'.length=cnt f n+td.length:=by
 obtain⟨r1,r2,r3,r4⟩:=h.r m l hm
 have hr:∀ p∈s',0<=p.1/\p.1<(n:Int):=fun p hp=>(hs m l s r2.1 r2.2 r3.1 r4.1 hsc p ((hss p).1 hp)).1
 obtain⟨a1,a2,a3,a4,a5,a6⟩:=aBK (n:=n) s' f td f' td' hp hr
 refine⟨⟨fun x hx=>?_,fun x y hx=>?_,fun x y hx hn=>?_,a1 _ _ h.d⟩,a6⟩
 ·rcases a5 x hx with g | ⟨p,g1,g2⟩
  ·obtain⟨y,hy⟩:=h.has x (a1b _ g);exact⟨y,a1 _ _ hy⟩
  ·exact⟨p.2,by rw [<- g2];exact a2 p g1⟩
 ·rcases a3 x y hx with g | ⟨g1,g2⟩
  ·obtain⟨b1,b2,b3,b4⟩:=h.r x y g;exact⟨b1,b2,⟨b3.1,by omega⟩,⟨b4.1,by omega⟩⟩
  ·have g3:=(hss _).1 g1;obtain⟨c1,c2,c3,c4,c5⟩:=hs m l s r2.1 r2.2 r3.1 r4.1 hsc _ g3;dsimp only at c2 c3 c4 c5
   exact⟨R.step (p:=(x,y)) r1 hsc g3,c1,⟨c2,by omega⟩,⟨c4,by omega⟩⟩
 ·rcases a3 x y hx with g | ⟨g1,g2⟩
  ·by_cases e:x=m
   ·subst e;rw [hm]at g;cases g
    exact⟨s,hsc,fun p hp=>a2 p ((hss p).2 hp)⟩
   ·obtain⟨t,t1,t2⟩:=h.c x y g (fun q=>by
     rcases a1a.1 q with q | q
     ·exact hn (a4 x q)
     ·exact e (a1k.1 q))
    exact⟨t,t1,fun p hp=>a1 _ _ (t2 p hp)⟩
  ·exact absurd g2 hn
theorem LvI.bad {sc:SC} {n:Nat} {a m:Int} {l0 l:AM} {f:FT} {td td0:List Int} {B:Int} {s s':List (Int × AM)} (h:LvI sc n a l0 f td0 B) (hm:f m=some l) (hsc:sc m l=some s) (hss:∀ p,p∈s' ↔ p∈s) (hp:psh f td s'=none):Bad sc a l0:=by
 obtain⟨p,p1,l',p2,p3⟩:=aBS s' f td hp
 have r1:=(h.r m l hm).1
 refine⟨p.1,p.2,R.step r1 hsc ((hss p).1 p1), .inr ⟨l',?_,p2⟩⟩
 rcases p3 with g | g
 ·exact(h.r _ _ g).1
 ·exact R.step (p:=(p.1,l')) r1 hsc ((hss _).1 g)
theorem LvI.closed {sc:SC} {n:Nat} {a:Int} {l0:AM} {f:FT} {B:Int} (h:LvI sc n a l0 f [] B):∀ m l,R sc a l0 m l ↔ f m=some l:=fun m l=>by
 constructor
 ·intro hr;induction hr with
  | base=>exact h.d
  | step _ h2 h3 ih=>
   obtain⟨s,s1,s2⟩:=h.c _ _ ih (by simp)
   rw [h2]at s1;cases s1
   exact s2 _ h3
 ·intro hf;exact(h.r m l hf).1
theorem LvI.good {sc:SC} {n:Nat} {a:Int} {l0:AM} {f:FT} {B:Int} (h:LvI sc n a l0 f [] B):¬ Bad sc a l0:=by
 rintro⟨m,l,h1,h2⟩
 have hf:=(h.closed m l).1 h1
 rcases h2 with g | ⟨l',g1,g2⟩
 ·obtain⟨s,s1,_⟩:=h.c m l hf (by simp)
  rw [g]at s1;cases s1
 ·rw [(h.closed m l').1 g1]at hf;cases hf;exact g2 rfl
def iO (ch:List Ar):List Int->Int
 | []=>0
 | j :: l=>(match ch[j.toNat]? with | some c=>c.Au | none=>0)+iO ch l
def defS (d:AN) (k:Int):List (Int × AM):=d.AP.map (fun s=>(s.AU,(⟨0,k⟩:AM)))++d.AO.map (fun r=>(r.AU,(⟨0,k+iO d.AQ r.AZ⟩:AM)))
open Classical in
noncomputable def scI (c:AC) (n:Nat) (i:AI) (l:AM):Option (List (Int × AM)):=
 if i.Op=1 then some [((n:Int)+1,⟨l.AY+1,l.Ab⟩)]
 else if i.Op=2 then(if i.A<l.Ab then some [((n:Int)+1,⟨l.AY+1,l.Ab⟩)] else none)
 else if 3<=i.Op/\i.Op<=7 then(if 2<=l.AY then some [((n:Int)+1,⟨l.AY - 1,l.Ab⟩)] else none)
 else if i.Op=8 then(if i.A<l.Ab/\i.B<=l.AY then some [((n:Int)+1,⟨l.AY - i.B,l.Ab⟩)] else none)
 else if i.Op=9 then(if 1<=l.AY/\qM c.Code n i then some [(i.A,⟨l.AY - 1,l.Ab⟩),((n:Int)+1,⟨l.AY - 1,l.Ab⟩)] else none)
 else if i.Op=10 then(if qM c.Code n i then some [(i.A,l)] else none)
 else if i.Op=11 then(if l.AY=0 then match c.AE[i.A.toNat]? with
  | none=>none
  | some d=>some (defS d (l.Ab+(d.AQ.length+d.AP.length:Nat))++[((n:Int)+1,⟨l.AY,l.Ab+(d.AQ.length+d.AP.length:Nat)⟩)]) else none)
 else if i.Op=12 then(if i.A<=l.Ab then some [((n:Int)+1,⟨l.AY,i.A⟩)] else none)
 else if i.Op=13\/i.Op=15 then(if i.A<l.Ab/\l.AY=0 then some [(i.B,⟨0,l.Ab⟩),((n:Int)+1,l)] else none)
 else if i.Op=14 then(if l.AY=0 then some [((n:Int)+1,l)] else none)
 else (if l.AY=0 then some [] else none)
noncomputable def scP (c:AC):SC:=fun n l=>match c.Code[n.toNat]? with
 | none=>none
 | some i=>scI c n.toNat i l
structure Pre (c:AC):Prop where
 len:c.Code.length<=12000
 Aa:c.AE.length<=12
 okD:∀ d∈c.AE,okD d/\inD c.Code.length d
 okI:∀ (n:Nat) i,c.Code[n]? =some i->okI c.AE.length c.Code.length n i/\inI c.Code.length i
 end_:∀ i,c.Code[c.Code.length - 1]? =some i->i.Op=16
theorem aCK {ch:List Ar} {a:Int} {n:Nat} (hc:∀ c∈ch,okCh n c):∀ {l AB:List Int},jZ ch a AB l->0<=iO ch l/\iO ch l<=3*(l.length:Int)
 | [],_,_=>by simp [iO]
 | j :: l,AB,h=>by
  obtain⟨⟨_,_,⟨c,hc1,_⟩,_⟩,h2⟩:=h;have ih:=aCK hc h2;have:=hc c (a1j hc1);simp only [iO,hc1,a0M];have h3:=this.2.2.1;have h4:=this.2.2.2
  omega
theorem defS_ok {c:AC} (hp:Pre c) {d:AN} (hd:d∈c.AE) {k:Int} (hk:0<=k):∀ p∈defS d k,(0<=p.1/\p.1<(c.Code.length:Int))/\0<=p.2.AY/\p.2.AY<=0/\0<=p.2.Ab/\p.2.Ab<=k+9:=fun p h=>by
 obtain⟨h1,h2⟩:=hp.okD d hd
 rcases a1a.1 h with h | h
 ·obtain⟨s,s1,rfl⟩:=a1h.1 h;exact⟨h2.1 s s1,by simp,by simp,hk,by simp;omega⟩
 ·obtain⟨r,r1,rfl⟩:=a1h.1 h;have hr:=h1.2.2.2.1 r r1;have hj:=aCK h1.2.1 hr.2;have:=hr.1;exact⟨h2.2 r r1,by simp,by simp,by simp;omega,by simp;omega⟩
theorem Pre.next {c:AC} (hp:Pre c) {n:Nat} {i:AI} (hi:c.Code[n]? =some i) (ho:i.Op≠16):n+1<c.Code.length:=by
 have hn:=(a0F.1 hi).1
 rcases Nat.lt_or_ge (n+1) c.Code.length with h | h
 ·exact h
 ·have:n=c.Code.length - 1:=by omega
  rw [this]at hi;exact absurd (hp.end_ i hi) ho
theorem scI_ok {c:AC} (hp:Pre c) {n:Nat} {i:AI} {l:AM} {s:List (Int × AM)} (hi:c.Code[n]? =some i) (h1:0<=l.AY) (h2:0<=l.Ab) (h:scI c n i l=some s):∀ p∈s,(0<=p.1/\p.1<(c.Code.length:Int))/\0<=p.2.AY/\p.2.AY<=l.AY+1000/\0<=p.2.Ab/\p.2.Ab<=l.Ab+1000:=by
 obtain⟨hok,hin⟩:=hp.okI n i hi
 have hnx:=hp.next hi
 have hj:=hok.jump;have hs8:=hok.send;have h11:=hok.df;have hpos:=hok.pos
 unfold inI at hin
 rw [scI]at h
 by_cases o1:i.Op=1
 ·rw [a1V o1]at h;cases h
  have:=hnx (by omega)
  intro p hp;rw [a1k.1 hp];dsimp only;omega
 rw [a1U o1]at h
 by_cases o2:i.Op=2
 ·rw [a1V o2]at h;split at h <;> cases h
  have:=hnx (by omega)
  intro p hp;rw [a1k.1 hp];dsimp only;omega
 rw [a1U o2]at h
 by_cases o3:3<=i.Op/\i.Op<=7
 ·rw [a1V o3]at h;split at h <;> cases h
  have:=hnx (by omega)
  intro p hp;rw [a1k.1 hp];dsimp only;omega
 rw [a1U o3]at h
 by_cases o8:i.Op=8
 ·rw [a1V o8]at h;split at h <;> cases h
  have:=hnx (by omega)
  intro p hp;rw [a1k.1 hp];dsimp only;omega
 rw [a1U o8]at h
 by_cases o9:i.Op=9
 ·rw [a1V o9]at h;split at h <;> cases h
  have:=hnx (by omega)
  intro p hp;cases hp with
  | head=>dsimp only;omega
  | tail _ hp=>rw [a1k.1 hp];dsimp only;omega
 rw [a1U o9]at h
 by_cases o10:i.Op=10
 ·rw [a1V o10]at h;split at h <;> cases h
  intro p hp;rw [a1k.1 hp];dsimp only;omega
 rw [a1U o10]at h
 by_cases o11:i.Op=11
 ·rw [a1V o11]at h;split at h
  ·split at h
   ·cases h
   ·rename_i d hd;have hdm:=a1j hd;have hdo:=(hp.okD d hdm).1.1;cases h;have:=hnx (by omega)
    intro p hpp;rcases a1a.1 hpp with g | g
    ·have:=defS_ok hp hdm (by omega) p g;omega
    ·rw [a1k.1 g];dsimp only;omega
  ·cases h
 rw [a1U o11]at h
 by_cases o12:i.Op=12
 ·rw [a1V o12]at h;split at h <;> cases h
  have:=hnx (by omega)
  intro p hp;rw [a1k.1 hp];dsimp only;omega
 rw [a1U o12]at h
 by_cases o13:i.Op=13\/i.Op=15
 ·rw [a1V o13]at h;split at h <;> cases h
  have:=hnx (by omega)
  intro p hp;cases hp with
  | head=>dsimp only;omega
  | tail _ hp=>rw [a1k.1 hp];dsimp only;omega
 rw [a1U o13]at h
 by_cases o14:i.Op=14
 ·rw [a1V o14]at h;split at h <;> cases h
  have:=hnx (by omega)
  intro p hp;rw [a1k.1 hp];dsimp only;omega
 rw [a1U o14]at h
 split at h <;> cases h
 intro p hp;cases hp
theorem scP_sane {c:AC} (hp:Pre c):Sane (scP c) c.Code.length:=fun m l s h1 h2 h3 h4 h=>by
 unfold scP at h
 split at h
 ·cases h
 ·rename_i i hi;exact scI_ok hp hi h3 h4 h
open Go.SX Go.SW Go.Dt
open Classical in
noncomputable def dY:AV->List (Int × AM)->AV ⊕ Value
 | x,[]=> .inl x
 | x,p :: s=>match x.AR.get p.1 with
  | some l'=>if l'=p.2 then dY x s else .inr W
  | none=>dY ⟨x.AC,x.Ae,x.last,x.AR.upd p.1 p.2,x.Ad++[p.1]⟩ s
theorem zW:∀ (s t:List (Int × AM)) (x:AV),dY x (s++t)=(match dY x s with | .inl y=>dY y t | .inr v=> .inr v)
 | [],_,_=>rfl
 | p :: s,t,x=>by
  rw [a0s,dY,dY];cases x.AR.get p.1 with
  | some l'=>
   dsimp only
   by_cases e:l'=p.2
   ·rw [a1V e,a1V e];exact zW s t x
   ·rw [a1U e,a1U e]
  | none=>exact zW s t _
theorem aBv (p:Int × AM) (s:List (Int × AM)) (x:AV):dY x (p :: s)=(match dY x [p]with | .inl y=>dY y s | .inr v=> .inr v):=zW [p] s x
theorem oV:∀ (s:List (Int × AM)) (x y:AV),dY x s= .inl y->y.AC=x.AC/\y.Ae=x.Ae/\y.last=x.last/\y.Ad.length<=x.Ad.length+s.length
 | [],x,y,h=>by simp only [dY,Sum.inl.injEq]at h;subst h;exact⟨rfl,rfl,rfl,by simp⟩
 | p :: s,x,y,h=>by
  rw [dY]at h;cases hx:x.AR.get p.1 with
  | some l'=>
   rw [hx]at h;dsimp only at h
   by_cases e:l'=p.2
   ·rw [a1V e]at h;obtain⟨a,b,c,d⟩:=oV s x y h;exact⟨a,b,c,by simp only [a0M];omega⟩
   ·rw [a1U e]at h;cases h
  | none=>
   rw [hx]at h;dsimp only at h
   obtain⟨a,b,c,d⟩:=oV s _ y h;exact⟨a,b,c,by simp only [a0L,a0M,a0O]at d ⊢;omega⟩
theorem aCV {n:Nat}:∀ (s:List (Int × AM)) (x:AV),(∀ p∈s,0<=p.1/\p.1<(n:Int))->gW x.AR n->(match psh x.AR.get x.Ad s with | none=>dY x s= .inr W | some (f,td)=>∃ lv,dY x s= .inl ⟨x.AC,x.Ae,x.last,lv,td⟩/\lv.get=f/\gW lv n)
 | [],x,_,hk=>⟨x.AR,rfl,rfl,hk⟩
 | p :: s,x,hr,hk=>by
  have hr':∀ q∈s,0<=q.1/\q.1<(n:Int):=fun q hq=>hr q (.tail _ hq)
  rw [psh,dY];cases hx:x.AR.get p.1 with
  | some l'=>
   dsimp only
   by_cases e:l'=p.2
   ·rw [a1V e,a1V e];exact aCV s x hr' hk
   ·rw [a1U e,a1U e]
  | none=>exact aCV s ⟨x.AC,x.Ae,x.last,x.AR.upd p.1 p.2,x.Ad++[p.1]⟩ hr' (hk.upd (hr p (.head _)))
theorem lv_ext {a b:AM}:a=b ↔ (a.AY=b.AY/\a.Ab=b.Ab):=by
 obtain⟨a1,a2⟩:=a;obtain⟨b1,b2⟩:=b;simp
theorem iL {x:AV} {m:Int} {l:AM} (ht:x.Ad.length<=10000000):lO x m l=some (dY x [(m,l)]):=by
 rw [lO,dY]
 cases hx:x.AR.get m with
 | some l'=>
  simp only [Option.isSome_some,a1G];rw [a1Q];by_cases e:l'=l
  ·have:=lv_ext.1 e;rw [a1S this.1,a1S this.2,a1V e];rfl
  ·have:(decide (l'.AY=l.AY) && decide (l'.Ab=l.Ab))=false:=by
    rw [<- Bool.decide_and];exact a1R fun g=>e (lv_ext.2 g)
   rw [this,a1U e];rfl
 | none=>
  simp only [Option.isSome_none];rw [a1P,yN (by simp;omega)];rfl
theorem yS {l:AM} {a b:Int} (h1:0<=l.AY/\l.AY<=100000000) (ha:0<=a/\a<=100) (hb:0<=b/\b<=100):nB l a b=some (if a<=l.AY then .inl ⟨l.AY - a+b,l.Ab⟩ else .inr W):=by
 rw [nB]
 by_cases h:a<=l.AY
 ·rw [a1S h,fA,bsm,cU (by omega),bsm,cU (by omega),bsm,a1V h]
 ·rw [a1R h,dO,bsm,a1U h]
theorem f1_eq {i:AI} {l:AM}:rK i l=some (if i.A<l.Ab then .inl l else .inr W):=by
 rw [rK]
 by_cases h:i.A<l.Ab
 ·rw [a1S h,fA,bsm,a1V h]
 ·rw [a1R h,dO,bsm,a1U h]
theorem f2_eq {l:AM}:pP l=some (if l.AY=0 then .inl l else .inr W):=by
 rw [pP]
 by_cases h:l.AY=0
 ·rw [a1S h,fA,bsm,a1V h]
 ·rw [a1R h,dO,bsm,a1U h]
theorem pf1 {d:AN} {a:Int} (AD:List As):∀ (AB:List As) (k:Nat) (x:AV),d.AP=AB++AD->AD.length<k->AB.length+AD.length<=3000000->x.Ad.length+AD.length<=9000000 ->
 rF d a k (AB.length:Int) x.AC.AF x.AC.AE x.AC.Code x.AC.AG x.Ae x.last x.AR x.Ad=some (match dY x (AD.map fun s=>(s.AU,(⟨0,a⟩:AM)))with | .inl y=> .inl (y.AC.AF,y.AC.AE,y.AC.Code,y.AC.AG,y.Ae,y.last,y.AR,y.Ad) | .inr v=> .inr (.inr v)):=by
 induction AD with
 | nil=>
  intro AB k x h hk _ _;obtain _ | k:=k
  ·omega
  rw [rF,h,a1U (by simp)];rfl
 | cons e AD ih=>
  intro AB k x h hk hB hT;obtain _ | k:=k
  ·omega
  simp only [a0M]at hk hB hT;rw [rF,h,a1V (fR _ _ _),fD,bsm];refine b1 (iL (x:=x) (by omega)) ?_
  rw [a0W,aBv _ (AD.map fun s=>(s.AU,(⟨0,a⟩:AM)))];cases hy:dY x [(e.AU,(⟨0,a⟩:AM))]with
  | inr v=>rfl
  | inl y=>
   obtain⟨_,_,_,h4⟩:=oV _ _ _ hy;simp only [a0M,a0O]at h4;dsimp only
   rw [cU (by omega),bsm,gH AB e];exact ih (AB++[e]) k y (by rw [h];simp) (by omega) (by simp;omega) (by omega)
theorem pf3 {d:AN} {r:Al} {n:Nat} (hc:∀ c∈d.AQ,okCh n c) {at_:Int} (AD:List Int):∀ (AB pre':List Int) (k:Nat) (acc:Int),r.AZ=AB++AD->jZ d.AQ at_ pre' AD->AD.length<k->AB.length+AD.length<=3000000->0<=acc/\acc+3*(AD.length:Int)<=1000000000->sH d r k acc (AB.length:Int)=some (acc+iO d.AQ AD):=by
 induction AD with
 | nil=>
  intro AB pre' k acc h _ hk _ _;obtain _ | k:=k
  ·omega
  rw [sH,h,a1U (by simp),iO];simp
 | cons e AD ih=>
  intro AB pre' k acc h hj hk hB ha;obtain _ | k:=k
  ·omega
  simp only [a0M]at hk hB ha;obtain⟨⟨j1,j2,⟨c,c1,_⟩,_⟩,hj2⟩:=hj;have hm:=hc c (a1j c1);have hm1:=hm.2.2.1;have hm2:=hm.2.2.2;have hix:idx d.AQ e=some c:=by
   have:=qL c1
   rwa [show((e.toNat:Nat):Int)=e by omega]at this
  rw [sH,h,a1V (fR _ _ _),fD,bsm,hix,bsm,cU (by omega),bsm,cU (by omega),bsm,gH AB e,ih (AB++[e]) _ k _ (by rw [h];simp) hj2 (by omega) (by simp;omega) (by omega)];simp only [iO,c1];congr 1;omega
theorem pf2 {AA:Nat} {d:AN} (hf:4000000<=AA) (hok:okD d) {a:Int} (ha:0<=a/\a<=100000000) (AD:List Al):∀ (AB:List Al) (k:Nat) (x:AV),d.AO=AB++AD->AD.length<k->AB.length+AD.length<=3000000->x.Ad.length+AD.length<=9000000 ->
 qR AA d a k (AB.length:Int) x.AC.AF x.AC.AE x.AC.Code x.AC.AG x.Ae x.last x.AR x.Ad=some (dY x (AD.map fun r=>(r.AU,(⟨0,a+iO d.AQ r.AZ⟩:AM)))):=by
 induction AD with
 | nil=>
  intro AB k x h hk _ _;obtain _ | k:=k
  ·omega
  rw [qR,h,a1U (by simp)];rfl
 | cons e AD ih=>
  intro AB k x h hk hB hT;obtain _ | k:=k
  ·omega
  simp only [a0M]at hk hB hT;have he:=hok.2.2.2.1 e (by rw [h];simp)
  have hl3:=he.1.2.2.2;have e3:=pf3 (d:=d) (r:=e) hok.2.1 e.AZ [] [] AA 0 rfl he.2 (by omega) (by simp;omega) (by omega)
  have hjs:=aCK hok.2.1 he.2;simp only [a0O,a0n,Int.zero_add]at e3;rw [qR,h,a1V (fR _ _ _),fD];refine bb rfl ?_;refine bb e3 ?_;refine bb (cU (by omega)) ?_
  refine bb (iL (x:=x) (by omega)) ?_
  rw [a0W,aBv _ (AD.map fun r=>(r.AU,(⟨0,a+iO d.AQ r.AZ⟩:AM)))];cases hy:dY x [(e.AU,(⟨0,a+iO d.AQ e.AZ⟩:AM))]with
  | inr v=>rfl
  | inl y=>
   obtain⟨_,_,_,h4⟩:=oV _ _ _ hy;simp only [a0M,a0O]at h4;refine b1 rfl ?_;dsimp only
   rw [cU (by omega),bsm,gH AB e];exact ih (AB++[e]) k y (by rw [h];simp) (by omega) (by simp;omega) (by omega)
theorem def_eq {AA:Nat} {d:AN} (hf:4000000<=AA) (hok:okD d) {a:Int} (ha:0<=a/\a<=100000000) {x:AV} (ht:x.Ad.length<=1000000):zB AA x d a=some (dY x (defS d a)):=by
 obtain⟨⟨h1,h2,h3⟩,_⟩:=id hok
 have e1:=pf1 (d:=d) (a:=a) d.AP [] AA x rfl (by omega) (by simp;omega) (by omega)
 simp only [a0O,a0n]at e1
 rw [zB,e1,bsm,defS,zW]
 cases hy:dY x (d.AP.map fun s=>(s.AU,(⟨0,a⟩:AM)))with
 | inr v=>rfl
 | inl y=>
  obtain⟨_,_,_,h4⟩:=oV _ _ _ hy;simp only [a0N]at h4;have e2:=pf2 (AA:=AA) (d:=d) hf hok ha d.AO [] AA y rfl (by omega) (by simp;omega) (by omega)
  simp only [a0O,a0n]at e2;exact e2
theorem grp5 (a:Int):(if a=3 then some (decide (a=3)) else if a=4 then some (decide (a=4)) else if a=5 then some (decide (a=5)) else if a=6 then some (decide (a=6)) else some (decide (a=7)))=some (decide (3<=a/\a<=7)):=by
 by_cases h:3<=a/\a<=7
 ·have:a=3\/a=4\/a=5\/a=6\/a=7:=by omega
  rcases this with rfl | rfl | rfl | rfl | rfl <;> rfl
 ·rw [a1U (by omega),a1U (by omega),a1U (by omega),a1U (by omega),a1R h,a1R (by omega)]
theorem grp2 (a:Int):(if a=13 then some (decide (a=13)) else some (decide (a=15)))=some (decide (a=13\/a=15)):=by
 by_cases h:a=13
 ·subst h;rfl
 ·rw [a1U h];simp [h]
theorem aGV {C:List AI} {la:List Int} (h:pE C la C.length) {n:Nat} {i:AI} (hn:n<C.length) (ho:i.Op=9\/i.Op=10) (hA:(n:Int)<i.A/\i.A<(C.length:Int)):∃ q:Int,idx la (n:Int)=some q/\(i.A<=q ↔ qM C n i):=by
 obtain⟨q,h1,h2,h3,⟨e,h4,h5⟩,h6⟩:=h n hn
 refine⟨(q:Int),qL h1,fun g _ k k1 k2 j k3=>h6 k k1 (by omega) j k3,fun g=>?_⟩
 by_cases g2:(q:Int)<i.A
 ·exact absurd h5 (g ho q h2 g2 e h4)
 ·omega
open Go.SX Go.SW Go.Dt
theorem rr (r:AV ⊕ Value):(match r with | Sum.inr pv=>some (Sum.inr pv) | Sum.inl y=>some (Sum.inl (⟨(⟨y.AC.AF,y.AC.AE,y.AC.Code,y.AC.AG⟩:AC),y.Ae,y.last,y.AR,y.Ad⟩:AV)))=some r:=by cases r <;> rfl
theorem aK5 {AA:Nat} {x:AV} {n:Nat} {i:AI} {l:AM} (hf:4000000<=AA) (hp:Pre x.AC) (hi:x.AC.Code[n]? =some i) (hl:x.AR.get (n:Int)=some l) (hla:pE x.AC.Code x.last x.AC.Code.length)
 (hS:0<=l.AY/\l.AY<=80000000) (hK:0<=l.Ab/\l.Ab<=80000000) (ht:x.Ad.length<=100000):
 uJ AA x (n:Int)=some (match scI x.AC n i l with | none=> .inr W | some s=>dY x s):=by
 obtain⟨hok,hin⟩:=hp.okI n i hi
 have hn:=(a0F.1 hi).1
 have hlen:=hp.len
 have hj:=hok.jump;have hs8:=hok.send;have h11:=hok.df;have hpos:=hok.pos;have hop:=hok.op
 rw [uJ]
 refine b1 (qL hi) ?_
 dsimp only
 rw [hl]
 dsimp only [_root_.Option.getD_some]
 rw [scI]
 by_cases o1:i.Op=1
 ·rw [a1V o1,a1V o1,yS (l:=⟨l.AY,l.Ab⟩) (by dsimp only;omega) (by omega) (by omega),a1V (by dsimp only;omega)];refine bb rfl ?_;dsimp only
  refine b1 rfl ?_;dsimp only
  refine b1 (cU (by omega)) ?_
  refine b1 (iL (x:=x) (by omega)) ?_
  rw [show l.AY - 0+1=l.AY+1 by omega];exact rr _
 rw [a1U o1,a1U o1]
 by_cases o2:i.Op=2
 ·rw [a1V o2,a1V o2,f1_eq];by_cases g:i.A<l.Ab
  ·rw [a1V g,a1V g];refine bb rfl ?_;dsimp only
   rw [yS (l:=⟨l.AY,l.Ab⟩) (by dsimp only;omega) (by omega) (by omega),a1V (by dsimp only;omega)];refine bb rfl ?_;dsimp only
   refine b1 rfl ?_;dsimp only
   refine b1 (cU (by omega)) ?_
   refine b1 (iL (x:=x) (by omega)) ?_
   rw [show l.AY - 0+1=l.AY+1 by omega];exact rr _
  ·rw [a1U g,a1U g];rfl
 rw [a1U o2,a1U o2]
 refine bb (grp5 i.Op) ?_
 by_cases o3:3<=i.Op/\i.Op<=7
 ·rw [a1S o3,a1Q,a1V o3,yS (l:=⟨l.AY,l.Ab⟩) (by dsimp only;omega) (by omega) (by omega)];dsimp only
  by_cases g:2<=l.AY
  ·rw [a1V g,a1V g];refine bb rfl ?_;dsimp only
   refine b1 rfl ?_;dsimp only
   refine b1 (cU (by omega)) ?_
   refine b1 (iL (x:=x) (by omega)) ?_
   rw [show l.AY - 2+1=l.AY - 1 by omega];exact rr _
  ·rw [a1U g,a1U g];rfl
 rw [a1R o3,a1P,a1U o3]
 by_cases o8:i.Op=8
 ·have hb:=hs8 o8;rw [a1V o8,a1V o8,f1_eq];by_cases g:i.A<l.Ab
  ·rw [a1V g];refine bb rfl ?_;dsimp only
   rw [yS (l:=⟨l.AY,l.Ab⟩) (by dsimp only;omega) (by omega) (by omega)];dsimp only
   by_cases g2:i.B<=l.AY
   ·rw [a1V g2,a1V ⟨g,g2⟩];refine bb rfl ?_;dsimp only
    refine b1 rfl ?_;dsimp only
    refine b1 (cU (by omega)) ?_
    refine b1 (iL (x:=x) (by omega)) ?_
    rw [show l.AY - i.B+0=l.AY - i.B by omega];exact rr _
   ·rw [a1U g2,a1U (fun q:i.A<l.Ab/\i.B<=l.AY=>g2 q.2)];rfl
  ·rw [a1U g,a1U (fun q:i.A<l.Ab/\i.B<=l.AY=>g q.1)];rfl
 rw [a1U o8,a1U o8]
 by_cases o9:i.Op=9
 ·obtain⟨q,q1,q2⟩:=aGV hla hn (.inl o9) (hj (.inl o9));rw [a1V o9,a1V o9,yS (l:=⟨l.AY,l.Ab⟩) (by dsimp only;omega) (by omega) (by omega)];dsimp only
  by_cases g:1<=l.AY
  ·rw [a1V g];refine bb rfl ?_;dsimp only
   refine bb q1 ?_;by_cases g2:i.A<=q
   ·rw [a1S g2,fA,a1V ⟨g,q2.1 g2⟩,show l.AY - 1+0=l.AY - 1 by omega];refine bb rfl ?_;dsimp only
    rw [aBv _ [((n:Int)+1,_)]];refine bb (iL (x:=x) (by omega)) ?_
    cases hy:dY x [(i.A,(⟨l.AY - 1,l.Ab⟩:AM))]with
    | inr v=>rfl
    | inl y=>
     obtain⟨_,_,_,h4⟩:=oV _ _ _ hy;simp only [a0M,a0O]at h4;dsimp only
     refine b1 rfl ?_;dsimp only
     refine b1 (cU (by omega)) ?_
     refine b1 (iL (x:=y) (by omega)) ?_
     exact rr _
   ·rw [a1R g2,dO,a1U (fun z:1<=l.AY/\qM x.AC.Code n i=>g2 (q2.2 z.2))];rfl
  ·rw [a1U g,a1U (fun z:1<=l.AY/\qM x.AC.Code n i=>g z.1)];rfl
 rw [a1U o9,a1U o9]
 by_cases o10:i.Op=10
 ·obtain⟨q,q1,q2⟩:=aGV hla hn (.inr o10) (hj (.inr o10));rw [a1V o10,a1V o10];refine bb q1 ?_;by_cases g2:i.A<=q
  ·rw [a1S g2,fA,a1V (q2.1 g2)];refine bb rfl ?_;dsimp only
   refine bb (iL (x:=x) (by omega)) ?_
   have:(⟨l.AY,l.Ab⟩:AM)=l:=rfl;rw [this];cases hy:dY x [(i.A,l)]with
   | inr v=>rfl
   | inl y=>rfl
  ·rw [a1R g2,dO,a1U (fun z=>g2 (q2.2 z))];rfl
 rw [a1U o10,a1U o10]
 by_cases o11:i.Op=11
 ·have hA:=h11 o11;have hA2:=hpos (by omega)
  rw [a1V o11,a1V o11,f2_eq];dsimp only
  by_cases g:l.AY=0
  ·rw [a1V g,a1V g];refine bb rfl ?_;dsimp only
   have hd:x.AC.AE[i.A.toNat]? =some (x.AC.AE[i.A.toNat]'(by omega)):=a0E _
   have hix:=idx_get (xs:=x.AC.AE) hA2.1 hA;have hdm:=a1j hd;rw [hd];refine bb hix ?_;generalize x.AC.AE[i.A.toNat]'(by omega)=d at hdm
   have hdo:=(hp.okD d hdm).1;have hd3:=hdo.1;refine bb (cU (by omega)) ?_
   refine bb (cU (by omega)) ?_
   have hk:l.Ab+((d.AQ.length:Int)+(d.AP.length:Int))=l.Ab+(d.AQ.length+d.AP.length:Nat):=by omega
   rw [hk];refine bb (def_eq (x:=x) hf hdo (by omega) (by omega)) ?_
   dsimp only
   rw [zW];cases hy:dY x (defS d (l.Ab+(d.AQ.length+d.AP.length:Nat)))with
   | inr v=>rfl
   | inl y=>
    obtain⟨_,_,_,h4⟩:=oV _ _ _ hy;simp only [defS,a0L,a0N]at h4;dsimp only
    refine b1 rfl ?_;dsimp only
    refine b1 (cU (by omega)) ?_
    refine b1 (iL (x:=y) (by omega)) ?_
    exact rr _
  ·rw [a1U g,a1U g];rfl
 rw [a1U o11,a1U o11]
 by_cases o12:i.Op=12
 ·rw [a1V o12,a1V o12];by_cases g:i.A<=l.Ab
  ·rw [a1S g,fA,a1V g];refine bb rfl ?_;dsimp only
   refine b1 rfl ?_;dsimp only
   refine b1 (cU (by omega)) ?_
   refine b1 (iL (x:=x) (by omega)) ?_
   exact rr _
  ·rw [a1R g,dO,a1U g];rfl
 rw [a1U o12,a1U o12]
 refine bb (grp2 i.Op) ?_
 by_cases o13:i.Op=13\/i.Op=15
 ·rw [a1S o13,a1Q,a1V o13,f1_eq];by_cases g:i.A<l.Ab
  ·rw [a1V g];refine bb rfl ?_;dsimp only
   rw [f2_eq];dsimp only
   by_cases g2:l.AY=0
   ·rw [a1V g2,a1V ⟨g,g2⟩];refine bb rfl ?_;dsimp only
    rw [aBv _ [((n:Int)+1,_)]];refine bb (iL (x:=x) (by omega)) ?_
    cases hy:dY x [(i.B,(⟨0,l.Ab⟩:AM))]with
    | inr v=>rfl
    | inl y=>
     obtain⟨_,_,_,h4⟩:=oV _ _ _ hy;simp only [a0M,a0O]at h4;dsimp only
     refine b1 rfl ?_;dsimp only
     refine b1 (cU (by omega)) ?_
     refine b1 (iL (x:=y) (by omega)) ?_
     exact rr _
   ·rw [a1U g2,a1U (fun z:i.A<l.Ab/\l.AY=0=>g2 z.2)];rfl
  ·rw [a1U g,a1U (fun z:i.A<l.Ab/\l.AY=0=>g z.1)];rfl
 rw [a1R o13,a1P,a1U o13]
 by_cases o14:i.Op=14
 ·rw [a1V o14,a1V o14,f2_eq];dsimp only
  by_cases g:l.AY=0
  ·rw [a1V g,a1V g];refine bb rfl ?_;dsimp only
   refine b1 rfl ?_;dsimp only
   refine b1 (cU (by omega)) ?_
   refine b1 (iL (x:=x) (by omega)) ?_
   exact rr _
  ·rw [a1U g,a1U g];rfl
 rw [a1U o14,a1U o14]
 have o16:i.Op=16:=by omega
 rw [a1V o16,f2_eq]
 dsimp only
 by_cases g:l.AY=0
 ·rw [a1V g,a1V g];rfl
 ·rw [a1U g,a1U g];rfl
open Go.SX Go.SW Go.Dt
theorem aDy {c:AC} {m:Int} {i:AI} (hi:c.Code[m.toNat]? =some i) (l:AM):scP c m l=scI c m.toNat i l:=by unfold scP;rw [hi]
theorem pl2 {AA n:Nat} {c:AC} {b la:List Int} {a:Int} {l0:AM} (hf:4000000<=AA) (hp:Pre c) (hn:n=c.Code.length) (hla:pE c.Code la c.Code.length):∀ (k:Nat) (lv:aE Int AM) (td:List Int) (B:Int),gW lv n->LvI (scP c) n a l0 lv.get td B->cnt lv.get n+td.length<k->0<=B->B+1000*((cnt lv.get n+td.length:Nat):Int)<=50000000 ->
 (∃ lv' B',lV AA k c.AF c.AE c.Code c.AG b la lv td=some (.inl (c.AF,c.AE,c.Code,c.AG,b,la,lv',[]))/\gW lv' n/\LvI (scP c) n a l0 lv'.get [] B')\/(lV AA k c.AF c.AE c.Code c.AG b la lv td=some (.inr (none,false))/\Bad (scP c) a l0)
 | 0,_,_,_,_,_,h,_,_=>by omega
 | k+1,lv,td,B,hk,hI,hm,hB0,hB=>by
  rcases List.eq_nil_or_concat td with rfl | ⟨td,m,rfl⟩
  ·exact .inl ⟨lv,B,by rw [lV,a1U (by simp)],hk,hI⟩
  ·rw [List.concat_eq_append]at *
   obtain⟨l,hl⟩:=hI.has m (by simp)
   obtain⟨r1,r2,r3,r4⟩:=hI.r m l hl;subst hn;have hmn:((m.toNat:Nat):Int)=m:=by omega
   have hi:c.Code[m.toNat]? =some (c.Code[m.toNat]'(by omega)):=a0E _
   have hlen:=hp.len;have hcl:=aDd lv.get c.Code.length;simp only [a0L,a0S]at hm hB;have hfo:=aK5 (AA:=AA) (x:=⟨c,b,la,lv,td⟩) (n:=m.toNat) (l:=l) hf hp hi (by rw [hmn];exact hl) hla (by omega) (by omega) (by dsimp only;omega)
   rw [hmn]at hfo;have hsc:=aDy hi l;have hrest:∀ z,uJ AA (⟨(⟨c.AF,c.AE,c.Code,c.AG⟩:AC),b,la,lv,td⟩:AV) m=some z->lV AA (k+1) c.AF c.AE c.Code c.AG b la lv (td++[m])=match z with
    | Sum.inr pv11=>((unW 163 pv11).bind fun e16=>some (none,false)).bind fun r=>some (Sum.inr r)
    | Sum.inl y15=>lV AA k y15.AC.AF y15.AC.AE y15.AC.Code y15.AC.AG y15.Ae y15.last y15.AR y15.Ad:=fun z hz=>by
    have e1:((td++[m]).length:Int) - 1=(td.length:Int):=by simp
    rw [lV,a1V (by simp),e1];refine b1 (cU (by omega)) ?_
    refine b1 (fD td [] m) ?_;refine b1 (cU (by omega)) ?_
    refine b1 (aFS td [m]) ?_;refine b1 hz ?_;cases z <;> rfl
   cases hs:scI c m.toNat (c.Code[m.toNat]'(by omega)) l with
   | none=>
    rw [hs]at hfo hsc;refine .inr ⟨?_,m,l,r1, .inl hsc⟩;rw [hrest _ hfo];rfl
   | some s=>
    rw [hs]at hfo hsc;dsimp only at hfo
    have hsane:=scP_sane hp;have hrs:∀ p∈s,0<=p.1/\p.1<(c.Code.length:Int):=fun p hp'=>(hsane m l s r2.1 r2.2 r3.1 r4.1 hsc p hp').1
    have hpp:=aCV (n:=c.Code.length) s ⟨c,b,la,lv,td⟩ hrs hk;dsimp only at hpp
    cases hps:psh lv.get td s with
    | none=>
     rw [hps]at hpp;dsimp only at hpp
     refine .inr ⟨?_,hI.bad hl hsc (fun _=>Iff.rfl) hps⟩
     rw [hrest _ hfo,hpp];rfl
    | some ft=>
     obtain⟨f,td'⟩:=ft;rw [hps]at hpp;obtain⟨lv',p1,p2,p3⟩:=hpp;obtain⟨i1,i2⟩:=hI.step hsane hl hsc (fun _=>Iff.rfl) hps
     subst p2;rw [hrest _ hfo,p1];exact pl2 hf hp rfl hla k lv' td' (B+1000) p3 i1 (by omega) (by omega) (by omega)
open Classical in
theorem pl1 {AA n:Nat} {c:AC} {F M:Int} {D:List AN} {C:List AI} {b la td:List Int} {lv:aE Int AM} (hf:4000000<=AA) (AD:List AN):∀ (AB:List AN) (k:Nat),c.AE=AB++AD->AD.length<k->AB.length+AD.length<=3000000->(∀ d∈AD,smD d) ->
 sS AA c k (AB.length:Int) F D C M b la lv td=some (if ∀ d∈AD,okD d/\inD C.length d then .inl (F,D,C,M,b,la,lv,td) else .inr (none,false)):=by
 induction AD with
 | nil=>
  intro AB k h hk _ _;obtain _ | k:=k
  ·omega
  rw [sS,h,a1U (by simp),a1V (fun d h=>by cases h)]
 | cons e AD ih=>
  intro AB k h hk hB hs;obtain _ | k:=k
  ·omega
  simp only [a0M]at hk hB;rw [sS,h,a1V (fR _ _ _),fD,bsm];refine b1 (aKS (x:=⟨⟨F,D,C,M⟩,b,la,lv,td⟩) (d:=e) hf (hs e (.head _))) ?_;dsimp only
  by_cases g:okD e/\inD C.length e
  ·rw [a1V g];dsimp only
   rw [cU (by omega),bsm,gH AB e,ih (AB++[e]) k (by rw [h];simp) (by omega) (by simp;omega) (fun d hd=>hs d (.tail _ hd))];have:(∀ d∈e :: AD,okD d/\inD C.length d) ↔ ∀ d∈AD,okD d/\inD C.length d:=⟨fun q d hd=>q d (.tail _ hd),fun q d hd=>by
    cases hd with
    | head=>exact g
    | tail _ hd=>exact q d hd⟩
   by_cases q:∀ d∈AD,okD d/\inD C.length d
   ·rw [a1V q,a1V (this.2 q)]
   ·rw [a1U q,a1U (fun z=>q (this.1 z))]
  ·rw [a1U g,a1U (fun q:∀ d∈e :: AD,okD d/\inD C.length d=>g (q e (.head _)))];rfl
structure vF (c:AC):Prop where
 free:0<=c.AF/\c.AF<=12
 Aa:c.AE.length<=12
 code:0<c.Code.length/\c.Code.length<=12000
 main:0<=c.AG/\c.AG<(c.Code.length:Int)
 okD:∀ d∈c.AE,okD d/\inD c.Code.length d
 ins:(iZ c.AE.length c.Code.length 0 c.Code/\iB [] c.Code)/\(iN [] c.Code).length=c.AE.length
 bl:okB c
theorem aCn {dl len:Nat}:∀ {l:List AI} {n:Nat},iZ dl len n l ↔ ∀ (j:Nat) i,l[j]? =some i->okI dl len ((n+j:Nat):Int) i/\inI len i
 | [],n=>by simp [iZ]
 | e :: l,n=>by
  simp only [iZ,aCn (l:=l)];constructor
  ·rintro⟨h1,h2⟩ j i hj
   cases j with
   | zero=>simp at hj;subst hj;exact h1
   | succ j=>have:=h2 j i (by simpa using hj);rwa [show n+1+j=n+(j+1) by omega]at this
  ·intro h;refine⟨h 0 e rfl,fun j i hj=>?_⟩
   have:=h (j+1) i (by simpa using hj)
   rwa [show n+(j+1)=n+1+j by omega]at this
theorem vF.AB {c:AC} (h:vF c) (hl:c.Code.length<=12000):Pre c where
 len:=hl
 Aa:=h.Aa
 okD:=h.okD
 okI:=fun n i hi=>by have:=aCn.1 h.ins.1.1 n i hi;rwa [a1E]at this
 end_:=fun i hi=>by
  have:=h.bl.2.2;rw [aDi hi]at this;exact of_decide_eq_true this
theorem smB_of {c:AC} (hd:c.AE.length<=12) (hl:c.Code.length<=12000) (hp:∀ d∈c.AE,okD d):SmB c:=⟨by omega,hd,fun d h=>⟨(hp d h).1.2.2,(hp d h).1.2.1⟩⟩
def aAd (c:AC):Prop:=vF c/\¬ Bad (scP c) c.AG ⟨0,c.AF⟩/\∀ i:Nat,i<c.Code.length->∃ l,R (scP c) c.AG ⟨0,c.AF⟩ (i:Int) l
theorem aDR {c:Prop} [Decidable c] (h:¬ c):cC (decide c)=some (.inr W):=by rw [a1R h];rfl
theorem start {c:AC} {f:FT} (hb:vF c) (h:f=fup (fun _=>none) c.AG ⟨0,c.AF⟩):LvI (scP c) c.Code.length c.AG ⟨0,c.AF⟩ f [c.AG] 12:=by
 subst h
 have h1:∀ m l,fup (fun _=>none) c.AG ⟨0,c.AF⟩ m=some l->m=c.AG/\l=⟨0,c.AF⟩:=fun m l hm=>by
  unfold fup at hm;split at hm
  ·cases hm;exact⟨by assumption,rfl⟩
  ·cases hm
 refine⟨fun m hm=>⟨⟨0,c.AF⟩,a1V (a1k.1 hm)⟩,fun m l hm=>?_,fun m l hm hn=>?_,a1V rfl⟩
 ·obtain⟨rfl,rfl⟩:=h1 m l hm;exact⟨.base,hb.main,by simp,hb.free⟩
 ·obtain⟨rfl,rfl⟩:=h1 m l hm;exact absurd (a1k.2 rfl) hn
theorem aIm {AA:Nat} {c:AC} (hf:4000000<=AA) (hl:c.Code.length<=12000) (hd:∀ d∈c.AE,smD d):
 (aAd c/\∃ x,fV AA c=some (some x,true)/\x.Ae=bI (bgs c)/\∀ (i:Nat) l,x.AR.get (i:Int)=some l ↔ R (scP c) c.AG ⟨0,c.AF⟩ (i:Int) l)\/(¬ aAd c/\fV AA c=some (none,false)):=by
 have hno:¬ vF c->fV AA c=some (none,false)->(aAd c/\∃ x,fV AA c=some (some x,true)/\x.Ae=bI (bgs c)/\∀ (i:Nat) l,x.AR.get (i:Int)=some l ↔ R (scP c) c.AG ⟨0,c.AF⟩ (i:Int) l)\/(¬ aAd c/\fV AA c=some (none,false)):=fun h1 h2=> .inr ⟨fun g=>h1 g.1,h2⟩
 by_cases h1:0<=c.AF
 rotate_left
 ·refine hno (fun g=>h1 g.free.1) ?_
  rw [fV,a1U h1];rfl
 by_cases h2:c.AF<=12
 rotate_left
 ·refine hno (fun g=>h2 g.free.2) ?_
  rw [fV,a1V h1,a1U h2];rfl
 by_cases h3:(c.AE.length:Int)<=12
 rotate_left
 ·refine hno (fun g=>h3 (by have:=g.Aa;omega)) ?_
  rw [fV,a1V h1,a1V h2,a1U h3];rfl
 by_cases h4:0<(c.Code.length:Int)
 rotate_left
 ·refine hno (fun g=>h4 (by have:=g.code;omega)) ?_
  rw [fV,a1V h1,a1V h2,a1V h3,a1U h4];rfl
 by_cases h5:(c.Code.length:Int)<=12000
 rotate_left
 ·refine hno (fun g=>h5 (by have:=g.code;omega)) ?_
  rw [fV,a1V h1,a1V h2,a1V h3,a1V h4,a1U h5];rfl
 by_cases h6:0<=c.AG/\c.AG<(c.Code.length:Int)
 rotate_left
 ·refine hno (fun g=>h6 g.main) ?_
  rw [fV,a1V h1,a1V h2,a1V h3,a1V h4,a1V h5];refine bb (qG _ _) ?_;refine bb (aDR h6) ?_;rfl
 have hins:∀ x:AV,x.AC=c->lX x c.AG=some (x,true):=fun x hx=>by rw [qG,hx,a1S h6]
 have e1:=pl1 (AA:=AA) (n:=0) (c:=c) (F:=c.AF) (M:=c.AG) (D:=c.AE) (C:=c.Code) (b:=[]) (la:=[]) (td:=[]) (lv:=aE.none) hf c.AE [] AA rfl (by omega) (by simp;omega) hd
 simp only [a0O,a0n]at e1
 by_cases h7:∀ d∈c.AE,okD d/\inD c.Code.length d
 rotate_left
 ·refine hno (fun g=>h7 g.okD) ?_
  rw [a1U h7]at e1;rw [fV,a1V h1,a1V h2,a1V h3,a1V h4,a1V h5];refine bb (hins _ rfl) ?_;refine bb fA ?_;refine b1 rfl ?_;dsimp only
  refine b1 e1 ?_;rfl
 rw [a1V h7]at e1
 have e2:=aJ6 (AA:=AA) (x:=⟨c,[],[],aE.none,[]⟩) hf (by dsimp only;omega)
 dsimp only at e2
 by_cases h8:(iZ c.AE.length c.Code.length 0 c.Code/\iB [] c.Code)/\(iN [] c.Code).length=c.AE.length
 rotate_left
 ·refine hno (fun g=>h8 g.ins) ?_
  rw [a1U h8]at e2;rw [fV,a1V h1,a1V h2,a1V h3,a1V h4,a1V h5];refine bb (hins _ rfl) ?_;refine bb fA ?_;refine b1 rfl ?_;dsimp only
  refine b1 e1 ?_;dsimp only
  refine b1 e2 ?_;rfl
 rw [a1V h8]at e2
 have hsm:=smB_of (by omega) hl fun d hd=>(h7 d hd).1
 obtain⟨la,e3,hla⟩:=aJp (AA:=AA) (x:=⟨c,[],[],aE.none,[]⟩) hf hsm (by intro g;dsimp only at g;rw [g]at h4;simp at h4)
 dsimp only at e3 hla
 by_cases h9:okB c
 rotate_left
 ·refine hno (fun g=>h9 g.bl) ?_
  rw [a1U h9]at e3;rw [fV,a1V h1,a1V h2,a1V h3,a1V h4,a1V h5];refine bb (hins _ rfl) ?_;refine bb fA ?_;refine b1 rfl ?_;dsimp only
  refine b1 e1 ?_;dsimp only
  refine b1 e2 ?_;dsimp only
  refine b1 e3 ?_;rfl
 rw [a1V h9]at e3
 have hbasic:vF c:=⟨⟨h1,h2⟩,by omega,⟨by omega,by omega⟩,h6,h7,h8,h9⟩
 have hpre:=hbasic.AB hl
 have e4:=iL (x:=⟨c,bI (bgs c),la,aE.none,[]⟩) (m:=c.AG) (l:=⟨0,c.AF⟩) (by simp)
 have e4':dY ⟨c,bI (bgs c),la,aE.none,[]⟩ [(c.AG,⟨0,c.AF⟩)]= .inl ⟨c,bI (bgs c),la,aE.none.upd c.AG ⟨0,c.AF⟩,[c.AG]⟩:=rfl
 rw [e4']at e4
 have hst:=start (f:=(aE.none.upd c.AG (⟨0,c.AF⟩:AM)).get) hbasic rfl
 have hcl:=aDd (aE.none.upd c.AG (⟨0,c.AF⟩:AM)).get c.Code.length
 have e5:=pl2 (AA:=AA) (n:=c.Code.length) (c:=c) (b:=bI (bgs c)) (la:=la) hf hpre rfl (hla h9).2 AA (aE.none.upd c.AG ⟨0,c.AF⟩) [c.AG] 12 ((gW.none _).upd h6) hst (by simp only [a0S];omega) (by omega) (by simp only [a0S];omega)
 rcases e5 with⟨lv,B,e5,hk,hI⟩ | ⟨e5,hbad⟩
 ·have hcl:=hI.closed;by_cases h10:(lv.size:Int)=(c.Code.length:Int)
  ·refine .inl ⟨⟨hbasic,hI.good,fun i hi=>?_⟩,⟨c,bI (bgs c),la,lv,[]⟩,?_,rfl,fun i l=>(hcl _ _).symm⟩
   ·have:=hk.full.1 (by omega) i hi
    obtain⟨l,hl⟩:=Option.isSome_iff_exists.1 this;exact⟨l,(hcl _ _).2 hl⟩
   ·rw [fV,a1V h1,a1V h2,a1V h3,a1V h4,a1V h5];refine bb (hins _ rfl) ?_;refine bb fA ?_;refine b1 rfl ?_;dsimp only
    refine b1 e1 ?_;dsimp only
    refine b1 e2 ?_;dsimp only
    refine b1 e3 ?_;dsimp only
    refine b1 e4 ?_;dsimp only
    refine b1 e5 ?_;dsimp only
    refine b1 (z:= .inl ()) (by rw [a1S h10];rfl) ?_
    rfl
  ·refine .inr ⟨fun g=>h10 ?_,?_⟩
   ·have:=hk.full.2 fun i hi=>by
     obtain⟨l,hl⟩:=g.2.2 i hi;rw [(hcl _ _).1 hl];rfl
    omega
   ·rw [fV,a1V h1,a1V h2,a1V h3,a1V h4,a1V h5];refine bb (hins _ rfl) ?_;refine bb fA ?_;refine b1 rfl ?_;dsimp only
    refine b1 e1 ?_;dsimp only
    refine b1 e2 ?_;dsimp only
    refine b1 e3 ?_;dsimp only
    refine b1 e4 ?_;dsimp only
    refine b1 e5 ?_;dsimp only
    refine b1 (aDR h10) ?_;rfl
 ·refine .inr ⟨fun g=>g.2.1 hbad,?_⟩
  rw [fV,a1V h1,a1V h2,a1V h3,a1V h4,a1V h5];refine bb (hins _ rfl) ?_;refine bb fA ?_;refine b1 rfl ?_;dsimp only
  refine b1 e1 ?_;dsimp only
  refine b1 e2 ?_;dsimp only
  refine b1 e3 ?_;dsimp only
  refine b1 e4 ?_;dsimp only
  refine b1 e5 ?_;rfl
open Go.SX Go.SW Go.Dt
theorem aC {α γ:Type} {a:α} {f:α->Option γ}:(some a).bind f=f a:=by
 cases h:f a <;> simp [h]
theorem vJ {α:Type} {xs:List α} {i:Nat} {y:α} (h:xs[i]? =some y):idx xs (i:Int)=some y:=by
 unfold idx;rw [a1V (by omega)];simpa using h
theorem cY {α:Type} (AB AD:List α) (y:α):idx (AB++y :: AD) (AB.length:Int)=some y:=vJ (by simp)
theorem bK {i:Int} (h:-9000000000000000000<=i/\i<=9000000000000000000):chk i=some i:=by unfold chk;rw [a1V (by omega)]
theorem dB {α:Type} (AB AD:List α) (y:α):(AB.length:Int)<((AB++y :: AD).length:Int):=by simp;omega
theorem eI {α:Type} (AB AD:List α) (y:α):AB++y :: AD=(AB++[y])++AD:=by simp
theorem cN {α:Type} (AB:List α) (y:α):(AB.length:Int)+1=((AB++[y]).length:Int):=by simp
theorem zO (e:Ah):(⟨e.Op,e.N,e.AW⟩:Ah)=e:=by cases e;rfl
def flaw:Value:= .iface 240 (.agg ([(.int .i64 2)]:List Value).toArray)
theorem eQ:bQ true=some (.inl ()):=rfl
theorem dC:bQ false=some (.inr flaw):=rfl
mutual
def nE:Ah->Nat
 | ⟨_,_,ks⟩=>1+nL ks
def nL:List Ah->Nat
 | []=>0
 | k :: ks=>nE k+nL ks
end
mutual
def dE:Ah->Nat
 | ⟨_,_,ks⟩=>1+dL ks
def dL:List Ah->Nat
 | []=>0
 | k :: ks=>max (dE k) (dL ks)
end
def loc (s op n:Int) (l:Nat):Bool:=
 if op=1 then decide (-1000000000<=n/\n<=1000000000/\l=0) else if op=2 then decide (0<=n/\n<s/\l=0) else decide (3<=op/\op<=7/\n=0/\l=2)
mutual
def fE (s:Int):Ah->Bool
 | ⟨op,n,ks⟩=>loc s op n ks.length && fL s ks
def fL (s:Int):List Ah->Bool
 | []=>true
 | k :: ks=>fE s k && fL s ks
end
theorem pC (e:Ah):1<=nE e:=by cases e;simp only [nE];omega
theorem aBb:∀ l:List Ah,l.length<=nL l
 | []=>by simp [nL]
 | k :: ks=>by have:=aBb ks;have:=pC k;simp only [nL,a0M];omega
theorem rX:∀ {l:List Ah} {e:Ah},e∈l->nE e<=nL l
 | k :: ks,e,h=>by
  simp only [nL];cases h with
  | head=>omega
  | tail _ h=>have:=rX h;omega
def okE (s:Int) (e:Ah):Bool:=fE s e && decide (dE e<=12) && decide (nE e<=60)
def exR (s d w:Int) (e:Ah):Int ⊕ Value:=if fE s e=true/\d+dE e<=13/\w+nE e<=60 then .inl (w+nE e) else .inr flaw
theorem aFo {rec:Ah->Int->Int->Int->Option (Int ⊕ Value)} {op n d s:Int} (hd:0<=d/\d<=12):
 ∀ (AD AB:List Ah) (k:Nat) (w:Int),AD.length<k->AB.length+AD.length<=1000000000->0<=w->w<=60->(∀ e∈AD,∀ w:Int,0<=w->w<=60->rec e (d+1) w s=some (exR s (d+1) w e)) ->
  rP rec ⟨op,n,AB++AD⟩ d s k AB.length w=some (if fL s AD=true/\d+1+dL AD<=13/\w+nL AD<=60 then .inl (w+nL AD) else .inr flaw)
 | [],AB,k+1,w,_,_,h0,h1,_=>by
  rw [rP,a1U (by simp),a1V ⟨rfl,by simp [dL];omega,by simpa [nL]⟩];simp [nL]
 | e :: AD,AB,k+1,w,hk,hB,h0,h1,hr=>by
  rw [rP,a1V (dB _ _ _),cY];have hr1:=hr e (.head _) w h0 h1;simp only [a0M]at hk hB;simp only [aC,bK (i:=d+1) (by omega)];rw [zO,hr1];simp only [aC,exR];have hn:=pC e;by_cases hc:fE s e=true/\d+1+dE e<=13/\w+nE e<=60
  ·rw [a1V hc];simp only [bK (i:=(AB.length:Int)+1) (by omega),aC];rw [eI,cN,aFo hd AD (AB++[e]) k _ (by omega) (by simp;omega) (by omega) hc.2.2 (fun x hx=>hr x (.tail _ hx))];congr 1
   by_cases hs:fL s AD=true/\d+1+dL AD<=13/\w+nE e+nL AD<=60
   ·rw [a1V hs,a1V ⟨by simp [fL,hc.1,hs.1],by simp only [dL];omega,by simp only [nL];omega⟩];simp only [nL,Int.natCast_add];congr 1;omega
   ·rw [a1U hs,a1U];rintro⟨g1,g2,g3⟩
    simp only [fL,a0g]at g1;simp only [dL]at g2;simp only [nL]at g3;exact hs ⟨g1.2,by omega,by omega⟩
  ·rw [a1U hc];dsimp only
   rw [a1U];rintro⟨g1,g2,g3⟩
   simp only [fL,a0g]at g1;simp only [dL]at g2;simp only [nL]at g3;exact hc ⟨g1.1,by omega,by omega⟩
theorem aEl:∀ (AA:Nat) (e:Ah) (d w s:Int),nE e<AA->nE e<=1000000000->0<=d->d<=1000->0<=w->w<=60->oD AA e d w s=some (exR s d w e)
 | AA+1,⟨op,n,ks⟩,d,w,s,hf,hB,hd,hd2,hw,hw2=>by
  rw [oD];simp only [nE]at hf hB;have hlen:=aBb ks;simp only [bK (i:=w+1) (by omega),aC];have hdE:dE ⟨op,n,ks⟩=1+dL ks:=by simp only [dE]
  have hnE:nE ⟨op,n,ks⟩=1+nL ks:=by simp only [nE]
  have hfE:fE s ⟨op,n,ks⟩=(loc s op n ks.length && fL s ks):=by simp only [fE]
  by_cases h1:w+1<=60/\d<=12
  ·by_cases h2:loc s op n ks.length=true
   ·have hloop:=aFo (rec:=oD AA) (op:=op) (n:=n) (s:=s) ⟨hd,h1.2⟩ ks [] AA (w+1) (by omega) (by simp;omega) (by omega) h1.1
     (fun e he w h0 h60=>aEl AA e (d+1) w s (by have:=rX he;omega) (by have:=rX he;omega) (by omega) (by omega) h0 h60)
    simp only [a1l,a0O,a0n]at hloop;have hres:(some (if fL s ks=true/\d+1+(dL ks:Int)<=13/\w+1+(nL ks:Int)<=60 then Sum.inl (w+1+(nL ks:Int)) else Sum.inr flaw):Option (Int ⊕ Value))=some (exR s d w ⟨op,n,ks⟩):=by
     unfold exR;rw [hdE,hnE,hfE,h2];congr 1
     by_cases hc:fL s ks=true/\d+1+(dL ks:Int)<=13/\w+1+(nL ks:Int)<=60
     ·rw [a1V hc,a1V ⟨by simp [hc.1],by omega,by omega⟩];congr 1;omega
     ·rw [a1U hc,a1U];rintro⟨g1,g2,g3⟩
      exact hc ⟨by simpa using g1,by omega,by omega⟩
    rw [<- hres,<- hloop];unfold loc at h2;rw [a1V h1.1,a1S h1.2,eQ];simp only [aC];by_cases o1:op=1
    ·rw [a1V o1]at h2 ⊢;obtain⟨a,b,c⟩:=of_decide_eq_true h2;rw [a1V a,a1V b,a1S (by omega),eQ];rfl
    ·rw [a1U o1]at h2 ⊢;by_cases o2:op=2
     ·rw [a1V o2]at h2 ⊢;obtain⟨a,b,c⟩:=of_decide_eq_true h2;rw [a1V a,a1V b,a1S (by omega),eQ];rfl
     ·rw [a1U o2]at h2 ⊢;obtain⟨a,b,c,e⟩:=of_decide_eq_true h2;have:((if op=3 then some (decide (op=3)) else if op=4 then some (decide (op=4)) else if op=5 then some (decide (op=5)) else if op=6 then some (decide (op=6)) else some (decide (op=7))):Option Bool)=some true:=by
       split;· simp_all
       split;· simp_all
       split;· simp_all
       split;· simp_all
       rw [a1S (by omega)]
      rw [this];simp only [aC,a1Q];rw [a1V c,a1S (by omega),eQ];rfl
   ·have hr:exR s d w ⟨op,n,ks⟩= .inr flaw:=by
     unfold exR;rw [a1U];rintro⟨g,_⟩;rw [hfE]at g;simp [h2]at g
    rw [hr,a1V h1.1,a1S h1.2,eQ];simp only [aC];unfold loc at h2;by_cases o1:op=1
    ·rw [a1V o1]at h2 ⊢;simp only [a1T]at h2;by_cases a:-1000000000<=n
     ·rw [a1V a];by_cases b:n<=1000000000
      ·rw [a1V b,a1R (by omega),dC];rfl
      ·rw [a1U b,dC];rfl
     ·rw [a1U a,dC];rfl
    ·rw [a1U o1]at h2 ⊢;by_cases o2:op=2
     ·rw [a1V o2]at h2 ⊢;simp only [a1T]at h2;by_cases a:0<=n
      ·rw [a1V a];by_cases b:n<s
       ·rw [a1V b,a1R (by omega),dC];rfl
       ·rw [a1U b,dC];rfl
      ·rw [a1U a,dC];rfl
     ·rw [a1U o2]at h2 ⊢;simp only [a1T]at h2;have:((if op=3 then some (decide (op=3)) else if op=4 then some (decide (op=4)) else if op=5 then some (decide (op=5)) else if op=6 then some (decide (op=6)) else some (decide (op=7))):Option Bool)=some (decide (3<=op/\op<=7)):=by
       split;· simp_all
       split;· simp_all
       split;· simp_all
       split;· simp_all
       congr 1;rw [decide_eq_decide];omega
      rw [this];simp only [aC];by_cases o3:3<=op/\op<=7
      ·rw [a1S o3];simp only [a1Q];by_cases a:n=0
       ·rw [a1V a,a1R (by omega),dC];rfl
       ·rw [a1U a,dC];rfl
      ·rw [a1R o3,dC];rfl
  ·have hr:exR s d w ⟨op,n,ks⟩= .inr flaw:=by
    unfold exR;rw [a1U];rintro⟨_,g2,g3⟩;rw [hdE]at g2;rw [hnE]at g3;omega
   rw [hr];by_cases h2:w+1<=60
   ·rw [a1V h2,a1R (by omega),dC];rfl
   ·rw [a1U h2,dC];rfl
theorem exp_eq {AA:Nat} {e:Ah} {s:Int} (hf:nE e<AA) (hB:nE e<=1000000000):yI AA e s=some (if okE s e=true then .inl () else .inr flaw):=by
 rw [yI,zO,aEl AA e 1 0 s hf hB (by omega) (by omega) (by omega) (by omega)]
 simp only [aC,exR]
 by_cases h:fE s e=true/\(1:Int)+dE e<=13/\(0:Int)+nE e<=60
 ·have h':okE s e=true:=by
   simp only [okE,a0g,a1T];exact⟨⟨h.1,by omega⟩,by omega⟩
  rw [a1V h,a1V h']
 ·have h':¬ okE s e=true:=by
   simp only [okE,a0g,a1T];intro g;exact h ⟨g.1.1,by omega,by omega⟩
  rw [a1U h,a1U h']
theorem aIc {rec:Ah->Int->Option Int} {op n most:Int} (hm:-1000000000<=most/\most<=1000000000) (AD:List Ah):
 ∀ (AB:List Ah) (k:Nat) (w:Int),AD.length<k->AB.length+AD.length<=1000000000->0<=w->w+nL AD<=1000000000->(∀ e∈AD,∀ m:Int,-1000000000<=m->m<=1000000000->∃ v,rec e m=some v/\0<=v/\v<=nE e/\((nE e:Int)<=m->v=nE e)/\(m<nE e->m<v)) ->
  ∃ v,sL rec ⟨op,n,AB++AD⟩ most k w AB.length=some v/\0<=v/\v<=w+nL AD/\(w+(nL AD:Int)<=most->v=w+nL AD)/\(most<w+nL AD->most<v):=by
 induction AD with
 | nil=>
  intro AB k w hk _ h0 _ _;obtain _ | k:=k
  ·omega
  refine⟨w,?_,h0,by simp only [nL];omega,fun _=>by simp only [nL];omega,fun h=>by simp only [nL]at h;omega⟩
  rw [sL,a1U (by simp)]
 | cons e AD ih=>
  intro AB k w hk hB h0 hW hr;obtain _ | k:=k
  ·omega
  simp only [a0M]at hk hB;simp only [nL]at hW ⊢;rw [sL,a1V (dB _ _ _)];by_cases hw:w<=most
  ·rw [a1V hw];simp only [cY,aC,bK (i:=most - w) (by omega)];obtain⟨v,h1,h2,h3,h4,h5⟩:=hr e (.head _) (most - w) (by omega) (by omega)
   simp only [h1,aC,bK (i:=w+v) (by omega),bK (i:=(AB.length:Int)+1) (by omega)];rw [eI,cN];obtain⟨u,g1,g2,g3,g4,g5⟩:=ih (AB++[e]) k (w+v) (by omega) (by simp;omega) (by omega) (by omega) (fun x hx=>hr x (.tail _ hx))
   refine⟨u,g1,g2,by omega,fun h=>?_,fun h=>?_⟩
   ·have:=h4 (by omega);have:=g4 (by omega);omega
   ·by_cases hv:(nE e:Int)<=most - w
    ·have:=h4 hv;exact g5 (by omega)
    ·have:=h5 (by omega);exact g5 (by omega)
  ·rw [a1U hw];exact⟨w,rfl,h0,by omega,fun h=>by omega,fun _=>by omega⟩
theorem nodes_eq (AA:Nat):∀ (e:Ah) (m:Int),nE e<AA->nE e<=1000000000-> -1000000000<=m->m<=1000000000->∃ v,nF AA e m=some v/\0<=v/\v<=nE e/\((nE e:Int)<=m->v=nE e)/\(m<nE e->m<v):=by
 induction AA with
 | zero=>intro e m h;omega
 | succ AA ih=>
  intro ⟨op,n,ks⟩ m hf hB h0 h1
  simp only [nE]at hf hB ⊢;have hlen:=aBb ks;obtain⟨v,g1,g2,g3,g4,g5⟩:=aIc (rec:=nF AA) (op:=op) (n:=n) ⟨h0,h1⟩ ks [] AA 1 (by omega) (by simp;omega) (by omega) (by omega)
   (fun e he m h0 h1=>ih e m (by have:=rX he;omega) (by have:=rX he;omega) h0 h1)
  simp only [a1l,a0O,a0n]at g1;exact⟨v,by rw [nF,g1];rfl,g2,by omega,fun h=>by have:=g4 (by omega);omega,fun h=>g5 (by omega)⟩
theorem aIL {rec:Ah->Option Int} {op n:Int} (AD:List Ah):
 ∀ (AB:List Ah) (k:Nat) (w:Int),AD.length<k->AB.length+AD.length<=1000000000->0<=w->(∀ e∈AD,rec e=some (dE e:Int)) ->
  pZ rec ⟨op,n,AB++AD⟩ k w AB.length=some (max w (dL AD:Int)):=by
 induction AD with
 | nil=>
  intro AB k w hk _ h0 _;obtain _ | k:=k
  ·omega
  rw [pZ,a1U (by simp)];simp only [dL];congr 1;omega
 | cons e AD ih=>
  intro AB k w hk hB h0 hr;obtain _ | k:=k
  ·omega
  simp only [a0M]at hk hB;rw [pZ,a1V (dB _ _ _)];simp only [cY,aC,hr e (.head _),bK (i:=(AB.length:Int)+1) (by omega)];rw [eI,cN,ih (AB++[e]) k _ (by omega) (by simp;omega) (by omega) (fun x hx=>hr x (.tail _ hx))];simp only [dL];congr 1;omega
theorem dE_le:(∀ e,dE e<=nE e)/\∀ l,dL l<=nL l:=by
 refine⟨fun e=>?_,fun l=>?_⟩
 ·exact go e
 ·exact goL l
where
 go:∀ e,dE e<=nE e
  | ⟨_,_,ks⟩=>by have:=goL ks;simp only [dE,nE];omega
 goL:∀ l,dL l<=nL l
  | []=>by simp [dL]
  | k :: ks=>by have:=go k;have:=goL ks;simp only [dL,nL];omega
theorem depth_eq (AA:Nat):∀ (e:Ah),nE e<AA->nE e<=1000000000->nH AA e=some (dE e:Int):=by
 induction AA with
 | zero=>intro e h;omega
 | succ AA ih=>
  intro ⟨op,n,ks⟩ hf hB
  simp only [nE]at hf hB;have hlen:=aBb ks;have h:=aIL (rec:=nH AA) (op:=op) (n:=n) ks [] AA 0 (by omega) (by simp;omega) (by omega) (fun e he=>ih e (by have:=rX he;omega) (by have:=rX he;omega))
  simp only [a1l,a0O,a0n]at h;have hd:=dE_le.2 ks;rw [nH,h,show max (0:Int) (dL ks:Int)=dL ks from by omega];simp only [aC,bK (i:=(dL ks:Int)+1) (by omega),dE];congr 1;omega
theorem aJC (AA:Nat):∀ (e:Ah) (s:Int),nE e<AA->pQ AA e s=some (fE s e):=by
 induction AA with
 | zero=>intro e s h;omega
 | succ AA ih=>
  intro ⟨op,n,ks⟩ s hf
  simp only [nE]at hf;rw [pQ];simp only [fE,loc];by_cases o1:op=1
  ·rw [a1V o1,a1V o1];by_cases c:(ks.length:Int)=0
   ·have hk:ks=[]:=a0w (by omega)
    subst hk;rw [a1V c];by_cases a:-1000000000<=n
    ·rw [a1V a];simp [a,fL]
    ·rw [a1U a];simp [a,fL]
   ·rw [a1U c];have:¬ ks.length=0:=by omega
    simp [this]
  ·rw [a1U o1,a1U o1];by_cases o2:op=2
   ·rw [a1V o2,a1V o2];by_cases c:(ks.length:Int)=0
    ·have hk:ks=[]:=a0w (by omega)
     subst hk;rw [a1V c];by_cases a:0<=n
     ·rw [a1V a];simp [a,fL]
     ·rw [a1U a];simp [a,fL]
    ·rw [a1U c];have:¬ ks.length=0:=by omega
     simp [this]
   ·rw [a1U o2,a1U o2];by_cases a:op<3
    ·rw [a1V a];simp;intro _;omega
    ·rw [a1U a];by_cases b:7<op
     ·rw [a1V b];simp;intro _;omega
     ·rw [a1U b];by_cases c:(ks.length:Int)≠2
      ·rw [a1V c];simp;intro _ _ _;omega
      ·rw [a1U c];by_cases e:n≠0
       ·rw [a1V e];simp [e]
       ·rw [a1U e];match ks,c,hf with
        | [x,y],_,hf=>
         simp only [nL]at hf;have h1:=ih x s (by omega)
         have h2:=ih y s (by omega)
         have i0:idx [x,y] 0=some x:=rfl;have i1:idx [x,y] 1=some y:=rfl;have:decide (3<=op/\op<=7/\n=0/\[x,y].length=2)=true:=a1S ⟨by omega,by omega,by omega,rfl⟩
         rw [this];simp only [i0,i1,h1,h2,aC,fL,a0m,Bool.and_true];cases fE s x <;> simp
        | [],c,_=>simp at c
        | [_],c,_=>simp at c
        | _ :: _ :: _ :: _,c,_=>simp at c;omega
theorem aIk {AA:Nat} {e:Ah} {s:Int} (hf:nE e<AA) (hB:nE e<=1000000000):xF AA e s=some (okE s e):=by
 obtain⟨v,h1,h2,h3,h4,h5⟩:=nodes_eq AA e 60 hf hB (by omega) (by omega)
 rw [xF,zO,h1,depth_eq AA e hf hB,aJC AA e s hf]
 simp only [aC,okE]
 by_cases hn:(nE e:Int)<=60
 ·rw [h4 hn,a1V hn];by_cases hd:(dE e:Int)<=12
  ·rw [a1V hd];have h1:dE e<=12:=by omega
   have h2:nE e<=60:=by omega
   simp [h1,h2]
  ·rw [a1U hd];have:¬ dE e<=12:=by omega
   simp [this]
 ·have:=h5 (by omega)
  rw [a1U (by omega)];have:¬ nE e<=60:=by omega
  simp [this]
open Go.SX Go.SW Go.Dt
def fN (n:Nat) (c:Ar):Bool:=decide (0<=c.At/\c.At<=(n:Int)/\0<=c.Au/\c.Au<=3)
def iT:Nat->List As->Bool
 | _,[]=>true
 | i,s :: l=>decide (0<=s.In/\s.In<=(i:Int)) && iT (i+1) l
def jD (chans:List Ar) (at_:Int):List Int->List Int->List Bool->Option (List Bool)
 | _,[],u=>some u
 | AB,c :: js,u=>match idx chans c with
  | some ch=>if ch.At=at_/\c ∉ AB then jD chans at_ (AB++[c]) js (u.set c.toNat true) else none
  | none=>none
def lA (n:Nat) (r:Al):Prop:=0<=r.At/\r.At<=(n:Int)/\1<=r.AZ.length/\r.AZ.length<=3
instance {n:Nat} {r:Al}:Decidable (lA n r):=by unfold lA;infer_instance
def gR (chans:List Ar) (n:Nat):List Al->List Bool->Option (List Bool)
 | [],u=>some u
 | r :: rs,u=>if lA n r then(jD chans r.At [] r.AZ u).bind (gR chans n rs) else none
def okU (o:Option (List Bool)):Bool:=match o with
 | some u=>u.all id
 | none=>false
def cR (d:AN):Bool:=decide (d.AQ.length<=30/\d.AP.length<=30/\d.AO.length<=30) && d.AQ.all (fN d.AP.length) && iT 0 d.AP && okU (gR d.AQ d.AP.length d.AO (List.replicate d.AQ.length false))
def smDq (d:AN):Prop:=d.AQ.length<=2000000/\d.AP.length<=2000000/\d.AO.length<=2000000/\∀ r∈d.AO,r.AZ.length<=2000000
theorem gX {α:Type} {xs:List α} {i:Int} (h0:0<=i) (h1:i<xs.length):∃ y,idx xs i=some y:=by
 simp_all [idx]
theorem aDX {α:Type} {xs:List α} {i:Int} (h:¬ (0<=i/\i<xs.length)):idx xs i=none:=by
 grind [idx]
theorem aKC {c:Int} (AD:List Int):∀ (AB:List Int) (k:Nat),AD.length<k->AB.length+AD.length<=3000000->c ∉ AB ->
 ∃ r,kO (AB++AD) c k AB.length=some r/\((c∈AD/\∃ i:Int,r= .inr i/\0<=i)\/(c ∉ AD/\r= .inl ())):=by
 induction AD with
 | nil=>
  intro AB k hk _ _;obtain _ | k:=k
  ·omega
  grind [kO]
 | cons e AD ih=>
  intro AB k hk hB hn;obtain _ | k:=k
  ·omega
  simp only [a0M]at hk hB;by_cases he:c=e
  ·exact⟨_,by rw [kO,a1V (dB _ _ _),cY,aC,a1V he];rfl,(by grind)⟩
  ·obtain⟨r,h1,h2⟩:=ih (AB++[e]) k (by omega) (by simp;omega) (by simp [hn,he])
   refine⟨r,?_,?_⟩
   ·rw [kO,a1V (dB _ _ _),cY,aC,a1U he,bK (by omega),aC,eI AB AD e,cN AB e];exact h1
   grind
theorem aKs {AA:Nat} {l:List Int} {c:Int} (hf:l.length<AA) (hB:l.length<=3000000):pO AA l c=some (decide (c∈l)):=by
 obtain⟨r,h1,h2⟩:=aKC (c:=c) l [] AA hf (by simpa using hB) (by simp)
 grind [pO,vR]
theorem aHr {a:Int} {d:AN}:tV a d=some (if 0<=a/\a<=(d.AP.length:Int)then .inl () else .inr flaw):=by
 rw [tV]
 by_cases h:0<=a
 ·rw [a1V h];by_cases h2:a<=(d.AP.length:Int)
  ·grind [eQ]
  grind [dC]
 grind [dC]
theorem dl1 {sp:List As} {ru:List Al} (AD:List Ar):∀ (AB:List Ar) (k:Nat),AD.length<k->AB.length+AD.length<=3000000 ->
 sE ⟨AB++AD,sp,ru⟩ k AB.length=some (if AD.all (fN sp.length)=true then .inl () else .inr (.inr flaw)):=by
 induction AD with
 | nil=>
  intro AB k hk _;obtain _ | k:=k
  ·omega
  grind [sE]
 | cons e AD ih=>
  intro AB k hk hB;obtain _ | k:=k
  ·omega
  simp only [a0M]at hk hB;rw [sE,a1V (dB _ _ _)];dsimp only
  rw [cY,aC,aHr,aC];simp only [List.all_cons,a0g];by_cases h1:0<=e.At/\e.At<=(sp.length:Int)
  ·rw [a1V h1];dsimp only
   by_cases h2:0<=e.Au
   ·rw [a1V h2];by_cases h3:e.Au<=3
    ·rw [a1S h3,eQ,aC,aC];dsimp only
     rw [bK (by omega),aC,eI AB AD e,cN AB e,ih (AB++[e]) k (by omega) (by simp;omega)]
     grind [fN]
    ·have hn:¬ (fN sp.length e=true/\AD.all (fN sp.length)=true):=by
      rintro⟨g,_⟩;exact h3 (of_decide_eq_true g).2.2.2
     grind [dC]
   ·have hn:¬ (fN sp.length e=true/\AD.all (fN sp.length)=true):=by
     rintro⟨g,_⟩;exact h2 (of_decide_eq_true g).2.2.1
    grind [dC]
  grind [fN]
theorem dl2 {ch:List Ar} {ru:List Al} (AD:List As):∀ (AB:List As) (k:Nat),AD.length<k->AB.length+AD.length<=3000000 ->
 qU ⟨ch,AB++AD,ru⟩ k AB.length=some (if iT AB.length AD=true then .inl () else .inr (.inr flaw)):=by
 induction AD with
 | nil=>
  intro AB k hk _;obtain _ | k:=k
  ·omega
  rw [qU,a1U (by simp),a1V (by rfl)]
 | cons e AD ih=>
  intro AB k hk hB;obtain _ | k:=k
  ·omega
  simp only [a0M]at hk hB;rw [qU,a1V (dB _ _ _)];dsimp only
  rw [cY,aC];simp only [iT,a0g,a1T];by_cases h2:0<=e.In
  ·rw [a1V h2];by_cases h3:e.In<=(AB.length:Int)
   ·rw [a1S h3,eQ,aC,aC];dsimp only
    rw [bK (by omega),aC,eI AB AD e,cN AB e,ih (AB++[e]) k (by omega) (by simp;omega)];simp [h2,h3]
   grind [dC]
  grind [dC]
def Like (g:aE Int Bool) (u:List Bool):Prop:=(∀ i:Nat,g.get i=if u[i]? =some true then some true else none)/\g.size=u.countP id
theorem like_upd {g:aE Int Bool} {u:List Bool} {c:Int} (h:Like g u) (h0:0<=c) (h1:c<u.length):Like (aE.upd g c true) (u.set c.toNat true):=by
 obtain⟨n,rfl⟩:∃ n:Nat,c=n:=⟨c.toNat,by omega⟩
 have hn:n<u.length:=by omega
 simp only [a0o]
 refine⟨fun i=>?_,?_⟩
 ·simp only [aE.upd];by_cases hi:(i:Int)=n
  ·grind
  ·rw [a1U hi,h.1 i]
   grind
 ·simp only [aE.upd];rw [h.1 n,List.countP_set (h:=hn),h.2]
  grind
theorem dl4 {ch:List Ar} {sp:List As} {ru:List Al} {a nd:Int} (AD:List Int) {AA:Nat}:∀ (AB:List Int) (k:Nat) (g:aE Int Bool) (u:List Bool),AD.length<k->AB.length+AD.length<AA->AB.length+AD.length<=3000000->u.length=ch.length->Like g u ->
 (∃ u' g',jD ch a AB AD u=some u'/\u'.length=ch.length/\Like g' u'/\nG AA ⟨ch,sp,ru⟩ ⟨a,AB++AD,nd⟩ k AB.length g=some (.inl g')) \/
 (jD ch a AB AD u=none/\nG AA ⟨ch,sp,ru⟩ ⟨a,AB++AD,nd⟩ k AB.length g=some (.inr (.inr (.inr flaw)))):=by
 induction AD with
 | nil=>
  intro AB k g u hk _ _ hl hg;obtain _ | k:=k
  ·omega
  exact .inl ⟨u,g,rfl,hl,hg,by rw [nG,a1U (by simp)]⟩
 | cons e AD ih=>
  intro AB k g u hk hf hB hl hg;obtain _ | k:=k
  ·omega
  simp only [a0M]at hk hB hf;rw [nG,a1V (dB _ _ _)];dsimp only
  rw [cY,aC];simp only [jD];by_cases h1:0<=e/\e<(ch.length:Int)
  ·obtain⟨y,hy⟩:=gX h1.1 h1.2;rw [a1V h1.1,a1V h1.2,hy,aC];dsimp only
   by_cases h2:y.At=a
   ·rw [a1V h2];have hs:slc (AB++e :: AD) 0 AB.length=some AB:=by
     unfold slc;rw [a1V ⟨by omega,by omega,by simp;omega⟩];simp
    rw [hs,aC,aKs (by omega) (by omega),aC];by_cases h3:e∈AB
    ·grind [dC]
    ·rw [a1R h3,a1V ⟨h2,h3⟩,show(!false)=true from rfl,eQ,aC,aC];dsimp only
     rw [bK (by omega),aC,eI AB AD e,cN AB e]
     grind [like_upd]
   grind [dC]
  ·rw [aDX h1]
   grind [dC]
theorem dl3 {ch:List Ar} {sp:List As} {AA:Nat} (AD:List Al):∀ (AB:List Al) (k:Nat) (g:aE Int Bool) (u:List Bool),AD.length<k->AB.length+AD.length<=3000000->2000000<AA->(∀ r∈AD,r.AZ.length<=2000000)->u.length=ch.length->Like g u ->
 (∃ u' g',gR ch sp.length AD u=some u'/\u'.length=ch.length/\Like g' u'/\pW AA ⟨ch,sp,AB++AD⟩ k AB.length g=some (.inl g')) \/
 (gR ch sp.length AD u=none/\pW AA ⟨ch,sp,AB++AD⟩ k AB.length g=some (.inr (.inr flaw))):=by
 induction AD with
 | nil=>
  intro AB k g u hk _ _ _ hl hg;obtain _ | k:=k
  ·omega
  exact .inl ⟨u,g,rfl,hl,hg,by rw [pW,a1U (by simp)]⟩
 | cons e AD ih=>
  intro AB k g u hk hB hf hJ hl hg;obtain _ | k:=k
  ·omega
  simp only [a0M]at hk hB;have hj:=hJ e (.head _);rw [pW,a1V (dB _ _ _)];dsimp only
  rw [cY,aC,aHr,aC];simp only [gR];by_cases h1:0<=e.At/\e.At<=(sp.length:Int)
  ·rw [a1V h1];dsimp only
   by_cases h2:0<(e.AZ.length:Int)
   ·rw [a1V h2];by_cases h3:(e.AZ.length:Int)<=3
    ·rw [a1S h3,eQ,aC,a1V (show lA sp.length e from⟨h1.1,h1.2,by omega,by omega⟩)];have h4:=dl4 (ch:=ch) (sp:=sp) (ru:=AB++e :: AD) (a:=e.At) (nd:=e.AU) e.AZ (AA:=AA) [] AA g u (by omega) (by simp;omega) (by simp;omega) hl hg
     simp only [a1l,a0O,a0n]at h4;rcases h4 with⟨u',g',a1,a2,a3,a4⟩ | ⟨a1,a4⟩
     ·rw [a1,aC];have:((nG AA ⟨ch,sp,AB++e :: AD⟩ e AA 0 g)=some (.inl g')):=a4;dsimp only
      rw [aC];dsimp only
      rw [this,aC];dsimp only
      rw [bK (by omega),aC,eI AB AD e,cN AB e]
      grind
     simp_all
    ·rw [a1R h3,dC,a1U (show ¬ lA sp.length e from fun q=>h3 (by have:=q.2.2.2;omega))]
     grind
   ·rw [a1U h2,dC,a1U (show ¬ lA sp.length e from fun q=>h2 (by have:=q.2.2.1;omega))]
    grind
  grind [lA]
theorem def_eqq {AA:Nat} {d:AN} (hf:3000000<=AA) (hs:smDq d):tY AA d=some (if cR d=true then .inl () else .inr flaw):=by
 obtain⟨ch,sp,ru⟩:=d
 obtain⟨s1,s2,s3,s4⟩:=hs
 dsimp only at s1 s2 s3 s4
 rw [tY]
 dsimp only
 have e1:=dl1 (sp:=sp) (ru:=ru) ch [] AA (by omega) (by simp;omega)
 have e2:=dl2 (ch:=ch) (ru:=ru) sp [] AA (by omega) (by simp;omega)
 have e3:=dl3 (ch:=ch) (sp:=sp) (AA:=AA) ru [] AA aE.none (List.replicate ch.length false) (by omega) (by simp;omega) (by omega) s4 (by simp) ⟨fun i=>by simp [aE.none,List.getElem?_replicate],by simp [aE.none,List.countP_replicate]⟩
 simp only [a1l,a0O,a0n]at e1 e2 e3
 by_cases l1:ch.length<=30
 ·rw [a1V (by omega)];by_cases l2:sp.length<=30
  ·rw [a1V (by omega)];by_cases l3:ru.length<=30
   ·rw [a1S (by omega),eQ,aC,aC];dsimp only
    rw [e1,aC];have hok:cR ⟨ch,sp,ru⟩=(ch.all (fN sp.length) && iT 0 sp && okU (gR ch sp.length ru (List.replicate ch.length false))):=by
     grind [cR]
    rw [hok];cases h1:ch.all (fN sp.length)with
    | false=>simp
    | true=>
     simp only [if_true,a0m];rw [e2,aC];cases h2:iT 0 sp with
     | false=>simp
     | true=>
      simp only [if_true,a0m];rcases e3 with⟨u,g,a1,a2,a3,a4⟩ | ⟨a1,a4⟩
      ·rw [a4,aC];dsimp only
       rw [a1];have hc:((g.size:Int)=(ch.length:Int)) ↔ okU (some u)=true:=by
        show _ ↔ u.all id=true
        rw [a3.2,<- a2,a0p]
        grind [List.countP_eq_length]
       by_cases hh:(g.size:Int)=(ch.length:Int)
       ·grind [eQ]
       grind [dC]
      grind [okU]
   ·rw [a1R (by omega),dC,a1U];rfl
    grind [cR]
  ·rw [a1U (by omega),dC,a1U];rfl
   grind [cR]
 ·rw [a1U (by omega),dC,a1U];rfl
  grind [cR]
theorem rl1 {sp:List As} {ru:List Al} (AD:List Ar):∀ (AB:List Ar) (k:Nat),AD.length<k->AB.length+AD.length<=3000000 ->
 qD ⟨AB++AD,sp,ru⟩ k AB.length=some (if AD.all (fN sp.length)=true then .inl () else .inr false):=by
 induction AD with
 | nil=>
  intro AB k hk _;obtain _ | k:=k
  ·omega
  grind [qD]
 | cons e AD ih=>
  intro AB k hk hB;obtain _ | k:=k
  ·omega
  simp only [a0M]at hk hB;have hall:(e :: AD).all (fN sp.length)=(fN sp.length e && AD.all (fN sp.length)):=rfl;rw [qD,a1V (dB _ _ _),hall];dsimp only
  rw [cY,aC];by_cases hc:fN sp.length e=true
  ·obtain⟨c1,c2,c3,c4⟩:=of_decide_eq_true hc;rw [a1U (by omega),aC,a1U (by omega),aC,a1U (by omega),aC,a1U (by omega),bK (by omega),aC,eI AB AD e,cN AB e,ih (AB++[e]) k (by omega) (by simp;omega),hc,a0m]
  ·have hf:fN sp.length e=false:=by simpa using hc
   rw [hf,Bool.false_and,a1U (show ¬ (false=true)from a0j)];have hd:¬ (0<=e.At/\e.At<=(sp.length:Int)/\0<=e.Au/\e.Au<=3):=of_decide_eq_false hf
   grind
theorem rl2 {ch:List Ar} {ru:List Al} (AD:List As):∀ (AB:List As) (k:Nat),AD.length<k->AB.length+AD.length<=3000000 ->
 rO ⟨ch,AB++AD,ru⟩ k AB.length=some (if iT AB.length AD=true then .inl () else .inr false):=by
 induction AD with
 | nil=>
  intro AB k hk _;obtain _ | k:=k
  ·omega
  rw [rO,a1U (by simp),a1V (by rfl)]
 | cons e AD ih=>
  intro AB k hk hB;obtain _ | k:=k
  ·omega
  simp only [a0M]at hk hB;have hall:iT AB.length (e :: AD)=(decide (0<=e.In/\e.In<=(AB.length:Int)) && iT (AB.length+1) AD):=rfl;rw [rO,a1V (dB _ _ _),hall];dsimp only
  rw [cY,aC];by_cases hc:0<=e.In/\e.In<=(AB.length:Int)
  ·have hp:(AB++[e]).length=AB.length+1:=by simp
   rw [a1U (by omega),aC,a1U (by omega),bK (by omega),aC,eI AB AD e,cN AB e,ih (AB++[e]) k (by omega) (by simp;omega),a1S hc,a0m,hp]
  grind
theorem rl5 {a nd c:Int} {js:List Int} (AD:List Int):∀ (AB:List Int) (k:Nat) (post:List Int),js=AB++AD++post->AD.length<k->AB.length+AD.length<=3000000 ->
 qA ⟨a,js,nd⟩ (AB.length+AD.length:Nat) c k AB.length=some (if c∈AD then .inr (.inr (.inr (.inr false))) else .inl ()):=by
 induction AD with
 | nil=>
  intro AB k post _ hk _;obtain _ | k:=k
  ·omega
  grind [qA]
 | cons e AD ih=>
  intro AB k post hj hk hB;obtain _ | k:=k
  ·omega
  simp only [a0M]at hk hB;have hi:idx js (AB.length:Int)=some e:=by grind [idx]
  rw [qA,a1V (by simp;omega)];dsimp only
  rw [hi,aC];by_cases hc:e=c
  ·grind
  ·have h:=ih (AB++[e]) k post (by simp [hj]) (by omega) (by simp;omega)
   have hl:(AB++[e]).length+AD.length=AB.length+(e :: AD).length:=by simp;omega
   rw [hl]at h;have hm:(c∈e :: AD) ↔ c∈AD:=by simp [Ne.symm hc]
   grind [chk]
theorem rl4 {ch:List Ar} {sp:List As} {ru:List Al} {a nd:Int} (AD:List Int) {AA:Nat}:∀ (AB:List Int) (k:Nat) (u:List Bool),AD.length<k->AB.length+AD.length<AA->AB.length+AD.length<=3000000->u.length=ch.length ->
 (∃ u',jD ch a AB AD u=some u'/\u'.length=ch.length/\mJ AA ⟨ch,sp,ru⟩ ⟨a,AB++AD,nd⟩ k u AB.length=some (.inl u')) \/
 (jD ch a AB AD u=none/\mJ AA ⟨ch,sp,ru⟩ ⟨a,AB++AD,nd⟩ k u AB.length=some (.inr (.inr false))):=by
 induction AD with
 | nil=>
  intro AB k u hk _ _ hl;obtain _ | k:=k
  ·omega
  exact .inl ⟨u,rfl,hl,by grind [mJ]⟩
 | cons e AD ih=>
  intro AB k u hk hf hB hl;obtain _ | k:=k
  ·omega
  simp only [a0M]at hk hB hf;rw [mJ,a1V (dB _ _ _)];dsimp only
  rw [cY,aC];simp only [jD];by_cases h1:0<=e/\e<(ch.length:Int)
  ·obtain⟨y,hy⟩:=gX h1.1 h1.2;obtain⟨b,hb⟩:=gX (xs:=u) h1.1 (by omega)
   rw [hy,a1U (show ¬ e<0 by omega),a1U (show ¬ (ch.length:Int)<=e by omega),aC];dsimp only
   by_cases h2:y.At=a
   ·have h5:=rl5 (a:=a) (nd:=nd) (c:=e) (js:=AB++e :: AD) AB [] AA (e :: AD) (by simp) (by omega) (by simp;omega)
    simp only [a0O,a1E,a0n]at h5;rw [a1U (show ¬ (y.At≠a)from fun q=>q h2),h5,aC];by_cases h3:e∈AB
    ·grind
    ·rw [a1U h3,a1V (show y.At=a/\e ∉ AB from⟨h2,h3⟩)];dsimp only
     rw [hb,aC,aC];dsimp only
     rw [bK (by omega),aC,eI AB AD e,cN AB e]
     grind
   grind
  grind [idx]
theorem rl3 {ch:List Ar} {sp:List As} {AA:Nat} (AD:List Al):∀ (AB:List Al) (k:Nat) (u:List Bool),AD.length<k->AB.length+AD.length<=3000000->2000000<AA->(∀ r∈AD,r.AZ.length<=2000000)->u.length=ch.length ->
 (∃ u',gR ch sp.length AD u=some u'/\u'.length=ch.length/\oL AA ⟨ch,sp,AB++AD⟩ k u AB.length=some (.inl u')) \/
 (gR ch sp.length AD u=none/\oL AA ⟨ch,sp,AB++AD⟩ k u AB.length=some (.inr false)):=by
 induction AD with
 | nil=>
  intro AB k u hk _ _ _ hl;obtain _ | k:=k
  ·omega
  exact .inl ⟨u,rfl,hl,by rw [oL,a1U (by simp)]⟩
 | cons e AD ih=>
  intro AB k u hk hB hf hJ hl;obtain _ | k:=k
  ·omega
  simp only [a0M]at hk hB;have hj:=hJ e (.head _);rw [oL,a1V (dB _ _ _)];dsimp only
  rw [cY,aC];simp only [gR];by_cases h1:lA sp.length e
  ·obtain⟨c1,c2,c3,c4⟩:=h1;rw [a1V (show lA sp.length e from⟨c1,c2,c3,c4⟩),a1U (show ¬ e.At<0 by omega),a1U (show ¬ (sp.length:Int)<e.At by omega),a1U (show ¬ (e.AZ.length:Int)<1 by omega),a1U (show ¬ 3<(e.AZ.length:Int) by omega)];have h4:=rl4 (ch:=ch) (sp:=sp) (ru:=AB++e :: AD) (a:=e.At) (nd:=e.AU) e.AZ (AA:=AA) [] AA u (by omega) (by simp;omega) (by simp;omega) hl
   simp only [a1l,a0O,a0n]at h4;rcases h4 with⟨u',a1,a2,a4⟩ | ⟨a1,a4⟩
   ·have:((mJ AA ⟨ch,sp,AB++e :: AD⟩ e AA u 0)=some (.inl u')):=a4;rw [a1,aC,this,aC];dsimp only
    rw [bK (by omega),aC,eI AB AD e,cN AB e];exact ih (AB++[e]) k u' (by omega) (by simp;omega) hf (fun r hr=>hJ r (.tail _ hr)) a2
   ·have:((mJ AA ⟨ch,sp,AB++e :: AD⟩ e AA u 0)=some (.inr (.inr false))):=a4;rw [a1,this];exact .inr ⟨rfl,rfl⟩
  ·rw [a1U h1];refine .inr ⟨rfl,?_⟩;unfold lA at h1;by_cases c1:e.At<0
   ·rw [a1V c1];rfl
   ·rw [a1U c1];by_cases c2:(sp.length:Int)<e.At
    ·rw [a1V c2];rfl
    ·rw [a1U c2];by_cases c3:(e.AZ.length:Int)<1
     ·rw [a1V c3];rfl
     ·rw [a1U c3,a1V (by omega)];rfl
theorem rl6 (AD:List Bool):∀ (AB:List Bool) (k:Nat),AD.length<k->AB.length+AD.length<=3000000->rV (AB++AD) k AB.length=some (if AD.all id=true then .inl () else .inr false):=by
 induction AD with
 | nil=>
  intro AB k hk _;obtain _ | k:=k
  ·omega
  grind [rV]
 | cons e AD ih=>
  intro AB k hk hB;obtain _ | k:=k
  ·omega
  simp only [a0M]at hk hB;rw [rV,a1V (dB _ _ _),cY,aC];cases e with
  | false=>
   grind
  | true=>
   rw [a1Q,bK (by omega),aC,eI AB AD true,cN AB true,ih (AB++[true]) k (by omega) (by simp;omega),show(true :: AD).all id=AD.all id from by simp]
theorem rdef_eq {AA:Nat} {d:AN} (hf:3000000<=AA) (hs:smDq d):yJ AA d=some (cR d):=by
 obtain⟨ch,sp,ru⟩:=d
 obtain⟨s1,s2,s3,s4⟩:=hs
 dsimp only at s1 s2 s3 s4
 rw [yJ]
 dsimp only
 have e1:=rl1 (sp:=sp) (ru:=ru) ch [] AA (by omega) (by simp;omega)
 have e2:=rl2 (ch:=ch) (ru:=ru) sp [] AA (by omega) (by simp;omega)
 have e3:=rl3 (ch:=ch) (sp:=sp) (AA:=AA) ru [] AA (List.replicate ch.length false) (by omega) (by simp;omega) (by omega) s4 (by simp)
 simp only [a1l,a0O,a0n]at e1 e2 e3
 have hmk:mk false (ch.length:Int)=some (List.replicate ch.length false):=by grind [mk]
 have hok:cR ⟨ch,sp,ru⟩=(decide (ch.length<=30/\sp.length<=30/\ru.length<=30) && ch.all (fN sp.length) && iT 0 sp && okU (gR ch sp.length ru (List.replicate ch.length false))):=rfl
 by_cases l1:30<ch.length
 ·grind
 ·rw [a1U (by omega)];by_cases l2:30<sp.length
  ·grind
  ·rw [a1U (by omega)];by_cases l3:30<ru.length
   ·grind
   ·rw [a1U (by omega),e1,aC,hok,a1S (by omega)];cases h1:ch.all (fN sp.length)with
    | false=>simp
    | true=>
     simp only [if_true,a0m];rw [e2,aC];cases h2:iT 0 sp with
     | false=>simp
     | true=>
      simp only [if_true,a0m];rw [hmk,aC];rcases e3 with⟨u,a1,a2,a4⟩ | ⟨a1,a4⟩
      ·have h6:=rl6 u [] AA (by omega) (by simp;omega)
       grind [okU]
      grind [okU]
open Go.SX Go.SW Go.Dt
structure VS where
 sz:List Int
 AT:List Bool
 AX:List Bool
def shp (op:Int):Option (Nat × Nat):=
 if op=1\/op=7 then some (0,0) else if op=3 then some (2,0) else if op=2 then some (0,1) else if op=5 then some (2,2) else if op=6\/op=8 then some (1,3) else if op=4 then some (1,4) else none
def okM (p:AL) (s:VS) (x:Af) (size:Int):Nat->Prop
 | 0=>x.N=0/\x.Ag.length=0
 | 1=>(0<=x.N/\x.N<size)/\x.Ag.length<=3
 | 2=>x.N=0/\x.Ag.length=1
 | 3=>(0<=x.N/\x.N<size)/\x.Ag.length=0
 | _=>(0<=x.N/\x.N<(p.AE.length:Int)/\idx s.AX x.N=some false)/\x.Ag.length=0
def okN (p:AL) (s:VS) (x:Af) (size:Int):Prop:=(∃ k c,shp x.Op=some (k,c)/\x.AW.length=k/\okM p s x size c)/\x.Ag.all (okE size)=true
def own (d:AN):Int:=(d.AQ.length:Int)+(d.AP.length:Int)
def brs (ch:List Ar):List Int->Int
 | []=>0
 | c :: js=>(match idx ch c with | some y=>y.Au | none=>0)+brs ch js
def cL (g:VS->Int->Int->Option VS):VS->List (Int × Int)->Option VS
 | s,[]=>some s
 | s,x :: l=>(g s x.1 x.2).bind fun s=>cL g s l
open Classical in
noncomputable def vis (p:AL):Nat->VS->Int->Int->Option VS
 | 0,_,_,_=>none
 | f+1,s,n,size=>
  if 0<=n/\n<(p.AH.length:Int)/\idx s.AT n=some false then
   (idx p.AH n).bind fun x=>
   if okN p s x size then
    if x.Op=4 then
     (idx p.AE x.N).bind fun d=>
     if cR d=true then
      (cL (vis p f) ⟨s.sz.set n.toNat size,s.AT.set n.toNat true,s.AX.set x.N.toNat true⟩ (d.AO.map fun r=>(r.AU,size+own d+brs d.AQ r.AZ))).bind fun s1=>
      (cL (vis p f) s1 (d.AP.map fun y=>(y.AU,size+own d))).bind fun s2=>
      cL (vis p f) s2 (x.AW.map fun k=>(k,size+own d))
     else none
    else cL (vis p f) ⟨s.sz.set n.toNat size,s.AT.set n.toNat true,s.AX⟩ (x.AW.map fun k=>(k,size))
   else none
  else none
def unm (s:VS):Nat:=s.AT.countP (fun b=>!b)
structure WS (p:AL) (s:VS):Prop where
 sz:s.sz.length=p.AH.length
 AT:s.AT.length=p.AH.length
 AX:s.AX.length=p.AE.length
structure SmP (p:AL):Prop where
 nodes:p.AH.length<=2000000
 Aa:p.AE.length<=2000000
 free:p.AF.length<=2000000
 names:∀ x∈p.AF,x.size<=2000000
 args:∀ x∈p.AH,x.Ag.length<=2000000/\x.AW.length<=2000000/\∀ e∈x.Ag,nE e<=2000000
 AX:∀ d∈p.AE,smDq d
theorem kD {α:Type} {xs:List α} {i:Int} {y:α} (h:idx xs i=some y):y∈xs:=a1j (Go.SW.idx_get h)
theorem aHz {ch:List Ar} {a:Int}:∀ (js AB:List Int) (u u':List Bool),jD ch a AB js u=some u'->∀ c∈js,∃ y,idx ch c=some y
 | [],_,_,_,_,c,h=>by cases h
 | e :: js,AB,u,u',h,c,hc=>by
  simp only [jD]at h;cases he:idx ch e with
  | none=>rw [he]at h;cases h
  | some y=>
   rw [he]at h;dsimp only at h
   split at h
   ·cases hc with
    | head=>exact⟨y,he⟩
    | tail _ hc=>exact aHz js _ _ _ h c hc
   ·cases h
theorem aCf {ch:List Ar} {n:Nat}:∀ (rs:List Al) (u u':List Bool),gR ch n rs u=some u'->∀ r∈rs,lA n r/\∀ c∈r.AZ,∃ y,idx ch c=some y
 | [],_,_,_,r,h=>by cases h
 | e :: rs,u,u',h,r,hr=>by
  simp only [gR]at h;split at h
  ·rename_i h1;obtain⟨u1,h2,h3⟩:=bind_some h;cases hr with
   | head=>exact⟨h1,aHz _ _ _ _ h2⟩
   | tail _ hr=>exact aCf rs _ _ h3 r hr
  ·cases h
theorem pL {d:AN} (h:cR d=true):d.AQ.length<=30/\d.AP.length<=30/\d.AO.length<=30/\(∀ c∈d.AQ,0<=c.Au/\c.Au<=3)/\∀ r∈d.AO,r.AZ.length<=3/\∀ c∈r.AZ,∃ y,idx d.AQ c=some y/\0<=y.Au/\y.Au<=3:=by
 simp only [cR,a0g,a1T]at h
 obtain⟨⟨⟨h1,h2⟩,h3⟩,h4⟩:=h
 have hm:∀ c∈d.AQ,0<=c.Au/\c.Au<=3:=fun c hc=>by
  have:=of_decide_eq_true (a0p.1 h2 c hc);exact⟨this.2.2.1,this.2.2.2⟩
 refine⟨h1.1,h1.2.1,h1.2.2,hm,fun r hr=>?_⟩
 cases hu:gR d.AQ d.AP.length d.AO (List.replicate d.AQ.length false)with
 | none=>rw [hu]at h4;cases h4
 | some u=>
  obtain⟨g1,g2⟩:=aCf _ _ _ hu r hr;exact⟨g1.2.2.2,fun c hc=>let ⟨y,hy⟩:=g2 c hc;⟨y,hy,hm y (kD hy)⟩⟩
theorem aBf {ch:List Ar}:∀ {js:List Int},(∀ c∈js,∃ y,idx ch c=some y/\0<=y.Au/\y.Au<=3)->0<=brs ch js/\brs ch js<=3*js.length
 | [],_=>by simp [brs]
 | c :: js,h=>by
  obtain⟨y,h1,h2,h3⟩:=h c (.head _);have:=aBf (js:=js) fun c hc=>h c (.tail _ hc)
  simp only [brs,h1,a0M];omega
theorem aJ2 {ch:List Ar} {sp:List As} {ru:List Al} {a nd:Int} (AD:List Int):∀ (AB:List Int) (k:Nat) (w:Int),AD.length<k->AB.length+AD.length<=1000->0<=w->w<=100000->(∀ c∈AD,∃ y,idx ch c=some y/\0<=y.Au/\y.Au<=3)->w+3*AD.length<=100000 ->
 sA ⟨ch,sp,ru⟩ ⟨a,AB++AD,nd⟩ k w AB.length=some (w+brs ch AD):=by
 induction AD with
 | nil=>
  intro AB k w hk _ _ _ _ _;obtain _ | k:=k
  ·omega
  rw [sA,a1U (by simp)];simp [brs]
 | cons e AD ih=>
  intro AB k w hk hB h0 h1 hm hw;obtain _ | k:=k
  ·omega
  simp only [a0M]at hk hB hw;obtain⟨y,g1,g2,g3⟩:=hm e (.head _);rw [sA,a1V (dB _ _ _)];dsimp only
  rw [cY,aC,g1,aC,bK (by omega),aC,bK (by omega),aC,eI AB AD e,cN AB e,ih (AB++[e]) k _ (by omega) (by simp;omega) (by omega) (by omega) (fun c hc=>hm c (.tail _ hc)) (by omega)];simp only [brs,g1];congr 1;omega
theorem aI3 {AA:Nat} {d:AN} {r:Al} (hf:3000<=AA) (h:cR d=true) (hr:r∈d.AO):yE AA d r=some (brs d.AQ r.AZ):=by
 obtain⟨_,_,_,_,h5⟩:=pL h
 obtain⟨g1,g2⟩:=h5 r hr
 have:=aJ2 (ch:=d.AQ) (sp:=d.AP) (ru:=d.AO) (a:=r.At) (nd:=r.AU) r.AZ [] AA 0 (by omega) (by simp;omega) (by omega) (by omega) g2 (by omega)
 simp only [a1l,a0O,a0n]at this
 rw [yE,this,aC];congr 1;omega
def kK (p:AL) (o:Option VS):Ap ⊕ Value:=match o with
 | some s=> .inl ⟨p,s.sz,s.AT,s.AX⟩
 | none=> .inr flaw
structure Vis (p:AL) (f:Nat) (rec:Ap->Int->Int->Option (Ap ⊕ Value)):Prop where
 run:∀ (s:VS) (n z:Int),WS p s->unm s<=f->0<=z->z+80*f<=100000->rec ⟨p,s.sz,s.AT,s.AX⟩ n z=some (kK p (vis p f s n z))
structure VisO (p:AL) (f:Nat):Prop where
 out:∀ (s:VS) (n z:Int) (s':VS),WS p s->unm s<=f->vis p f s n z=some s'->WS p s'/\unm s'+1<=unm s
theorem lY {p:AL} {f:Nat} (h:VisO p f):∀ (l:List (Int × Int)) (s s':VS),WS p s->unm s<=f->cL (vis p f) s l=some s'->WS p s'/\unm s'<=unm s
 | [],s,s',hs,_,e=>by cases e;exact⟨hs,a1A _⟩
 | x :: l,s,s',hs,hu,e=>by
  obtain⟨s1,e1,e2⟩:=bind_some e;obtain⟨h1,h2⟩:=h.out _ _ _ _ hs hu e1;obtain⟨h3,h4⟩:=lY h l s1 s' h1 (by omega) e2
  exact⟨h3,by omega⟩
section
variable {p:AL} {f:Nat} {rec:Ap->Int->Int->Option (Ap ⊕ Value)}
theorem ln4 (hv:Vis p f rec) (ho:VisO p f) {op nn:Int} {ar:List Ah} {z:Int} (hz:0<=z/\z+80*f<=100000) (AD:List Int):∀ (AB:List Int) (k:Nat) (s:VS),AD.length<k->AB.length+AD.length<=3000000->WS p s->unm s<=f ->
 pU rec ⟨op,nn,ar,AB++AD⟩ z k AB.length p.AF p.AH p.AE p.AG s.sz s.AT s.AX=some (kK p (cL (vis p f) s (AD.map fun k=>(k,z)))):=by
 induction AD with
 | nil=>
  intro AB k s hk _ hs hu;obtain _ | k:=k
  ·omega
  rw [pU,a1U (by simp)];rfl
 | cons e AD ih=>
  intro AB k s hk hB hs hu;obtain _ | k:=k
  ·omega
  simp only [a0M]at hk hB;rw [pU,a1V (dB _ _ _)];dsimp only
  rw [cY,aC];have h1:=hv.run s e z hs hu hz.1 hz.2;rw [show(⟨⟨p.AF,p.AH,p.AE,p.AG⟩,s.sz,s.AT,s.AX⟩:Ap)=⟨p,s.sz,s.AT,s.AX⟩from rfl,h1,aC];simp only [a0W,cL];cases hc:vis p f s e z with
  | none=>rfl
  | some s1=>
   obtain⟨h2,h3⟩:=ho.out _ _ _ _ hs hu hc;simp only [kK];rw [bK (by omega),aC,eI AB AD e,cN AB e,aC];exact ih (AB++[e]) k s1 (by omega) (by simp;omega) h2 (by omega)
theorem ln3 (hv:Vis p f rec) (ho:VisO p f) {ch:List Ar} {ru:List Al} {z:Int} (hz:0<=z/\z+80*f<=100000) (AD:List As):∀ (AB:List As) (k:Nat) (s:VS),AD.length<k->AB.length+AD.length<=3000000->WS p s->unm s<=f ->
 oZ rec ⟨ch,AB++AD,ru⟩ z k AB.length p.AF p.AH p.AE p.AG s.sz s.AT s.AX=some (match cL (vis p f) s (AD.map fun y=>(y.AU,z))with
  | some s'=> .inl (z,p.AF,p.AH,p.AE,p.AG,s'.sz,s'.AT,s'.AX)
  | none=> .inr (.inr flaw)):=by
 induction AD with
 | nil=>
  intro AB k s hk _ hs hu;obtain _ | k:=k
  ·omega
  rw [oZ,a1U (by simp)];rfl
 | cons e AD ih=>
  intro AB k s hk hB hs hu;obtain _ | k:=k
  ·omega
  simp only [a0M]at hk hB;rw [oZ,a1V (dB _ _ _)];dsimp only
  rw [cY,aC];have h1:=hv.run s e.AU z hs hu hz.1 hz.2;rw [show(⟨⟨p.AF,p.AH,p.AE,p.AG⟩,s.sz,s.AT,s.AX⟩:Ap)=⟨p,s.sz,s.AT,s.AX⟩from rfl,h1,aC];simp only [a0W,cL];cases hc:vis p f s e.AU z with
  | none=>rfl
  | some s1=>
   obtain⟨h2,h3⟩:=ho.out _ _ _ _ hs hu hc;simp only [kK];rw [bK (by omega),aC,eI AB AD e,cN AB e,aC];exact ih (AB++[e]) k s1 (by omega) (by simp;omega) h2 (by omega)
theorem ln2 (hv:Vis p f rec) (ho:VisO p f) {AA:Nat} {d:AN} (hd:cR d=true) (hf:3000<=AA) {z:Int} (hz:0<=z/\z+9+80*f<=100000) (AD:List Al):∀ (AB:List Al) (k:Nat) (s:VS),d.AO=AB++AD->AD.length<k->AB.length+AD.length<=3000000->WS p s->unm s<=f ->
 oX AA rec d z k AB.length p.AF p.AH p.AE p.AG s.sz s.AT s.AX=some (match cL (vis p f) s (AD.map fun r=>(r.AU,z+brs d.AQ r.AZ))with
  | some s'=> .inl (p.AF,p.AH,p.AE,p.AG,s'.sz,s'.AT,s'.AX)
  | none=> .inr (.inr (.inr flaw))):=by
 induction AD with
 | nil=>
  intro AB k s he hk _ hs hu;obtain _ | k:=k
  ·omega
  rw [oX,he,a1U (by simp)];rfl
 | cons e AD ih=>
  intro AB k s he hk hB hs hu;obtain _ | k:=k
  ·omega
  simp only [a0M]at hk hB;have hmem:e∈d.AO:=by rw [he];simp
  obtain⟨_,_,_,_,h5⟩:=pL hd;obtain⟨g1,g2⟩:=h5 e hmem;have hb:=aBf g2;rw [oX,he,a1V (dB _ _ _),<- he,show idx d.AO (AB.length:Int)=some e from by rw [he];exact cY _ _ _,aC,
   show(⟨e.At,e.AZ,e.AU⟩:Al)=e from rfl,show(⟨d.AQ,d.AP,d.AO⟩:AN)=d from rfl,aI3 hf hd hmem,aC,bK (by omega),aC]
  have h1:=hv.run s e.AU (z+brs d.AQ e.AZ) hs hu (by omega) (by omega)
  rw [show(⟨⟨p.AF,p.AH,p.AE,p.AG⟩,s.sz,s.AT,s.AX⟩:Ap)=⟨p,s.sz,s.AT,s.AX⟩from rfl,h1,aC];simp only [a0W,cL];cases hc:vis p f s e.AU (z+brs d.AQ e.AZ)with
  | none=>rfl
  | some s1=>
   obtain⟨h2,h3⟩:=ho.out _ _ _ _ hs hu hc;simp only [kK];rw [bK (by omega),aC,cN AB e,aC];exact ih (AB++[e]) k s1 (by rw [he];simp) (by omega) (by simp;omega) h2 (by omega)
end
theorem ln1 {AA:Nat} (hf:3000000<=AA) {op nn:Int} {ks:List Int} {z:Int} (AD:List Ah):∀ (AB:List Ah) (k:Nat),AD.length<k->AB.length+AD.length<=3000000->(∀ e∈AD,nE e<=2000000) ->
 oU AA z ⟨op,nn,AB++AD,ks⟩ k AB.length=some (if AD.all (okE z)=true then .inl () else .inr (.inr flaw)):=by
 induction AD with
 | nil=>
  intro AB k hk _ _;obtain _ | k:=k
  ·omega
  rw [oU,a1U (by simp),a1V (by rfl)]
 | cons e AD ih=>
  intro AB k hk hB he;obtain _ | k:=k
  ·omega
  simp only [a0M]at hk hB;have hn:=he e (.head _);rw [oU,a1V (dB _ _ _),show(e :: AD).all (okE z)=(okE z e && AD.all (okE z))from rfl];dsimp only
  rw [cY,aC,zO,exp_eq (by omega) (by omega),aC];cases h1:okE z e with
  | false=>rfl
  | true=>
   rw [a0m,a1V rfl];dsimp only
   rw [bK (by omega),aC,eI AB AD e,cN AB e];exact ih (AB++[e]) k (by omega) (by simp;omega) (fun x hx=>he x (.tail _ hx))
open Go.SX Go.SW Go.Dt
theorem aCb {s:VS} {p:AL} {n:Int} {z:Int} {AX:List Bool} (h0:0<=n) (hm:idx s.AT n=some false):unm ⟨s.sz.set n.toNat z,s.AT.set n.toNat true,AX⟩+1=unm s:=by
 obtain⟨j,rfl,hj,hlt⟩:=uL hm
 simp only [unm,a0o]
 rw [List.countP_set (h:=hlt)]
 have hv:s.AT[j]=false:=by
  have:=a0E hlt;rw [hj]at this;exact(a1L this).symm
 have hpos:0<s.AT.countP (fun b=>!b):=List.countP_pos_iff.2 ⟨s.AT[j],List.getElem_mem hlt,by rw [hv];rfl⟩
 rw [hv];simp;omega
theorem rE {p:AL} {s:VS} (h:WS p s) {i j:Nat} {z:Int}:WS p ⟨s.sz.set i z,s.AT.set i true,s.AX⟩/\WS p ⟨s.sz.set i z,s.AT.set i true,s.AX.set j true⟩:=
 ⟨⟨by simp [h.sz],by simp [h.AT],h.AX⟩,⟨by simp [h.sz],by simp [h.AT],by simp [h.AX]⟩⟩
theorem visO (p:AL) (f:Nat):VisO p f:=by
 induction f with
 | zero=>exact⟨fun s n z s' _ _ h=>by simp [vis]at h⟩
 | succ f ih=>
  refine⟨fun s n z s' hs hu h=>?_⟩
  simp only [vis]at h;split at h
  ·rename_i hc;obtain⟨x,_,h⟩:=bind_some h;have hun:=fun AX=>aCb (p:=p) (z:=z) (AX:=AX) hc.1 hc.2.2
   split at h
   ·split at h
    ·obtain⟨d,_,h⟩:=bind_some h;split at h
     ·obtain⟨s1,e1,h⟩:=bind_some h;obtain⟨s2,e2,e3⟩:=bind_some h;have:=hun (s.AX.set x.N.toNat true);obtain⟨a1,a2⟩:=lY ih _ _ _ (rE hs).2 (by omega) e1
      obtain⟨b1q,b2⟩:=lY ih _ _ _ a1 (by omega) e2
      obtain⟨c1,c2⟩:=lY ih _ _ _ b1q (by omega) e3
      exact⟨c1,by omega⟩
     ·cases h
    ·have:=hun s.AX;obtain⟨a1,a2⟩:=lY ih _ _ _ (rE hs (j:=0)).1 (by omega) h
     exact⟨a1,by omega⟩
   ·cases h
  ·cases h
def lM (AA:Nat) (a0:Ap) (a1 a2:Int) (y7:Af) (x2:Int):Option (Ap ⊕ Value):=
 (bQ (decide ((y7.Ag.length:Int)=x2))).bind fun y26=>
 match y26 with
 | Sum.inr pv15=>some (Sum.inr pv15)
 | Sum.inl _=>
 (oU AA a2 y7 AA 0).bind fun o=>match o with
 | Sum.inr r=>some r
 | Sum.inl _=>
 (if y7.Op=4 then
  (idx a0.Aa y7.N).bind fun _=>
  (idx a0.p.AE y7.N).bind fun y30=>
  (tY AA (⟨y30.AQ,y30.AP,y30.AO⟩:AN)).bind fun y31=>
  match y31 with
  | Sum.inr pv17=>(some (Sum.inr pv17)).bind fun r=>some (Sum.inr r)
  | Sum.inl _=>
  (vC (⟨y30.AQ,y30.AP,y30.AO⟩:AN)).bind fun y32=>
  (chk (a2+y32)).bind fun z2=>
  (oX AA (fT AA) y30 z2 AA 0 a0.p.AF a0.p.AH a0.p.AE a0.p.AG (a0.AS.set a1.toNat a2) (a0.AT.set a1.toNat true) (a0.Aa.set y7.N.toNat true)).bind fun o=>match o with
  | Sum.inr r=>some r
  | Sum.inl (x17,x18,x19,x20,x21,x22,x23)=>
  oZ (fT AA) y30 z2 AA 0 x17 x18 x19 x20 x21 x22 x23
 else
  some (Sum.inl (a2,a0.p.AF,a0.p.AH,a0.p.AE,a0.p.AG,a0.AS.set a1.toNat a2,a0.AT.set a1.toNat true,a0.Aa))).bind fun o=>match o with
 | Sum.inr r=>some r
 | Sum.inl (x9,x10,x11,x12,x13,x14,x15,x16)=>
 pU (fT AA) y7 x9 AA 0 x10 x11 x12 x13 x14 x15 x16
theorem own_eq {d:AN} (h:d.AQ.length<=2000000) (h2:d.AP.length<=2000000):vC d=some (own d):=by
 rw [vC,bK (by omega),aC];rfl
section
variable {p:AL} {f m:Nat}
noncomputable def rest (p:AL) (f:Nat) (s:VS) (n z:Int) (x:Af):Option VS:=
 if x.Op=4 then
  (idx p.AE x.N).bind fun d=>
  if cR d=true then
   (cL (vis p f) ⟨s.sz.set n.toNat z,s.AT.set n.toNat true,s.AX.set x.N.toNat true⟩ (d.AO.map fun r=>(r.AU,z+own d+brs d.AQ r.AZ))).bind fun s1=>
   (cL (vis p f) s1 (d.AP.map fun y=>(y.AU,z+own d))).bind fun s2=>
   cL (vis p f) s2 (x.AW.map fun k=>(k,z+own d))
  else none
 else cL (vis p f) ⟨s.sz.set n.toNat z,s.AT.set n.toNat true,s.AX⟩ (x.AW.map fun k=>(k,z))
theorem tail_bad {a0:Ap} {n z:Int} {x:Af} {x2:Int} (h:¬ (x.Ag.length:Int)=x2):lM m a0 n z x x2=some (.inr flaw):=by
 rw [lM,a1R h,dC];rfl
theorem tail_eq (hp:SmP p) (hm:3000000<=m) (hv:Vis p f (fT m)) {s:VS} (hs:WS p s) {n z:Int} {x:Af} (hx:x∈p.AH) (hun:∀ AX,unm ⟨s.sz.set n.toNat z,s.AT.set n.toNat true,AX⟩<=f) (hz:0<=z/\z+69+80*f<=100000)
 (hN:x.Op=4->0<=x.N/\x.N<(p.AE.length:Int)) {x2:Int} (h2:(x.Ag.length:Int)=x2):
 lM m ⟨p,s.sz,s.AT,s.AX⟩ n z x x2=some (kK p (if x.Ag.all (okE z)=true then rest p f s n z x else none)):=by
 obtain⟨op,nn,ar,ks⟩:=x
 obtain⟨g1,g2,g3⟩:=hp.args _ hx
 dsimp only at g1 g2 g3 h2 hN
 have ho:=visO p f
 rw [lM,a1S h2,eQ,aC]
 dsimp only
 have e1:=ln1 (AA:=m) hm (op:=op) (nn:=nn) (ks:=ks) (z:=z) ar [] m (by omega) (by simp;omega) g3
 simp only [a1l,a0O,a0n]at e1
 rw [e1,aC]
 cases hall:ar.all (okE z)with
 | false=>rfl
 | true=>
  rw [a1V rfl,a1V rfl];dsimp only
  by_cases h4:op=4
  ·subst h4;obtain⟨n0,n1⟩:=hN rfl;obtain⟨d,hd⟩:=gX n0 n1;obtain⟨b,hb⟩:=gX (xs:=s.AX) n0 (by rw [hs.AX];exact n1)
   have hsm:=hp.AX d (kD hd);have hres:rest p f s n z ⟨4,nn,ar,ks⟩=if cR d=true then
    (cL (vis p f) ⟨s.sz.set n.toNat z,s.AT.set n.toNat true,s.AX.set nn.toNat true⟩ (d.AO.map fun r=>(r.AU,z+own d+brs d.AQ r.AZ))).bind fun s1=>
    (cL (vis p f) s1 (d.AP.map fun y=>(y.AU,z+own d))).bind fun s2=>cL (vis p f) s2 (ks.map fun k=>(k,z+own d))
    else none:=by
    rw [rest,a1V rfl];dsimp only;rw [hd,aC]
   rw [hres,a1V rfl,hb,aC,hd,aC,show(⟨d.AQ,d.AP,d.AO⟩:AN)=d from rfl,def_eqq hm hsm,aC];cases hok:cR d with
   | false=>rfl
   | true=>
    rw [a1V rfl,a1V rfl];dsimp only
    obtain⟨k1,k2,k3,_,_⟩:=pL hok;have hown:0<=own d/\own d<=60:=by unfold own;omega
    rw [own_eq (by omega) (by omega),aC,bK (by omega),aC];have e2:=ln2 hv ho (AA:=m) hok (by omega) (z:=z+own d) ⟨by omega,by omega⟩ d.AO [] m ⟨s.sz.set n.toNat z,s.AT.set n.toNat true,s.AX.set nn.toNat true⟩ rfl (by omega) (by simp;omega) (rE hs).2 (hun _)
    simp only [a0O,a0n]at e2;rw [e2,aC];cases c2:cL (vis p f) ⟨s.sz.set n.toNat z,s.AT.set n.toNat true,s.AX.set nn.toNat true⟩ (d.AO.map fun r=>(r.AU,z+own d+brs d.AQ r.AZ))with
    | none=>rfl
    | some s1=>
     obtain⟨w1,u1⟩:=lY ho _ _ _ (rE hs).2 (hun _) c2;have hu1:=hun (s.AX.set nn.toNat true);dsimp only
     rw [aC];have e3:=ln3 hv ho (ch:=d.AQ) (ru:=d.AO) (z:=z+own d) ⟨by omega,by omega⟩ d.AP [] m s1 (by omega) (by simp;omega) w1 (by omega)
     simp only [a1l,a0O,a0n]at e3;rw [show(⟨d.AQ,d.AP,d.AO⟩:AN)=d from rfl]at e3;rw [e3,aC];cases c3:cL (vis p f) s1 (d.AP.map fun y=>(y.AU,z+own d))with
     | none=>rfl
     | some s2=>
      obtain⟨w2,u2⟩:=lY ho _ _ _ w1 (by omega) c3
      dsimp only
      rw [aC];have e4:=ln4 hv ho (op:=4) (nn:=nn) (ar:=ar) (z:=z+own d) ⟨by omega,by omega⟩ ks [] m s2 (by omega) (by simp;omega) w2 (by omega)
      simp only [a1l,a0O,a0n]at e4;exact e4
  ·rw [a1U h4,aC];dsimp only
   have hres:rest p f s n z ⟨op,nn,ar,ks⟩=cL (vis p f) ⟨s.sz.set n.toNat z,s.AT.set n.toNat true,s.AX⟩ (ks.map fun k=>(k,z)):=by
    rw [rest,a1U h4]
   rw [hres];have e4:=ln4 hv ho (op:=op) (nn:=nn) (ar:=ar) (z:=z) ⟨by omega,by omega⟩ ks [] m ⟨s.sz.set n.toNat z,s.AT.set n.toNat true,s.AX⟩ (by omega) (by simp;omega) (rE hs (j:=0)).1 (hun _)
   simp only [a1l,a0O,a0n]at e4;exact e4
theorem aF9 {s:VS} (hs:WS p s) {n z:Int} (h:¬ (0<=n/\n<(p.AH.length:Int)/\idx s.AT n=some false)):fT (m+1) ⟨p,s.sz,s.AT,s.AX⟩ n z=some (.inr flaw):=by
 rw [fT]
 by_cases h0:0<=n
 ·rw [a1V h0];by_cases h1:n<(p.AH.length:Int)
  ·obtain⟨b,hb⟩:=gX (xs:=s.AT) h0 (by rw [hs.AT];exact h1)
   dsimp only
   rw [a1V h1,hb,aC];cases b with
   | false=>exact absurd ⟨h0,h1,hb⟩ h
   | true=>rfl
  ·dsimp only
   rw [a1U h1,dC];rfl
 ·rw [a1U h0,dC];rfl
end
open Go.SX Go.SW Go.Dt
theorem aIB {op:Int} (h:op=1\/op=7):kA op=some (.iface 271 (.int .i64 0)):=by
 rcases h with rfl | rfl <;> rfl
theorem aJU:kA 3=some (.iface 271 (.int .i64 2)):=rfl
theorem aJ1:kA 2=some (.iface 259 (.agg ⟨[]⟩)):=rfl
theorem aIN:kA 5=some (.iface 262 (.agg ⟨[]⟩)):=rfl
theorem aJE {op:Int} (h:op=6\/op=8):kA op=some (.iface 260 (.agg ⟨[]⟩)):=by
 rcases h with rfl | rfl <;> rfl
theorem aKi:kA 4=some (.iface 261 (.agg ⟨[]⟩)):=rfl
theorem aJM {op:Int} (h:shp op=none):kA op=some .nilIface:=by
 unfold shp at h
 rw [kA]
 split at h;· cases h
 split at h;· cases h
 split at h;· cases h
 split at h;· cases h
 split at h;· cases h
 split at h;· cases h
 rename_i h1 h2 h3 h4 h5 h6
 rw [a1U (by omega),aC,a1R (by omega),a1P,a1U h2,a1U h3,a1U h4,a1U (by omega),aC,a1R (by omega),a1P,a1U h6]
def jF (m:Nat) (a0:Ap) (a1 a2:Int) (y7:Af) (y8:Value):Option (Ap ⊕ Value):=
 ((gU y8).bind fun x1=>
 bif !x1 then
  (lS y8).bind fun y9=>
  (bQ (decide ((y7.AW.length:Int)=y9))).bind fun y10=>
  match y10 with
  | Sum.inr pv4=>(some (Sum.inr pv4)).bind fun r=>some (Sum.inr r)
  | Sum.inl _=>
  some (Sum.inl ())
 else
  (bQ false).bind fun y11=>
  match y11 with
  | Sum.inr pv5=>(some (Sum.inr pv5)).bind fun r=>some (Sum.inr r)
  | Sum.inl _=>
  some (Sum.inl ())).bind fun o=>match o with
 | Sum.inr r=>some r
 | Sum.inl _=>
 ((eR 259 (.agg #[]) y8).bind fun y12=>
 match y12 with
 | (_,x3)=>
 bif x3 then
  if 0<=y7.N then
   (bQ (decide (y7.N<a2))).bind fun y13=>
   match y13 with
   | Sum.inr pv6=>(some (Sum.inr pv6)).bind fun r=>some (Sum.inr r)
   | Sum.inl _=>
   some (Sum.inl (min (y7.Ag.length:Int) 3))
  else
   (bQ false).bind fun y14=>
   match y14 with
   | Sum.inr pv7=>(some (Sum.inr pv7)).bind fun r=>some (Sum.inr r)
   | Sum.inl _=>
   some (Sum.inl (min (y7.Ag.length:Int) 3))
 else
  (eR 260 (.agg #[]) y8).bind fun y15=>
  match y15 with
  | (_,x4)=>
  bif x4 then
   if 0<=y7.N then
    (bQ (decide (y7.N<a2))).bind fun y16=>
    match y16 with
    | Sum.inr pv8=>(some (Sum.inr pv8)).bind fun r=>some (Sum.inr r)
    | Sum.inl _=>
    some (Sum.inl 0)
   else
    (bQ false).bind fun y17=>
    match y17 with
    | Sum.inr pv9=>(some (Sum.inr pv9)).bind fun r=>some (Sum.inr r)
    | Sum.inl _=>
    some (Sum.inl 0)
  else
   (eR 261 (.agg #[]) y8).bind fun y18=>
   match y18 with
   | (_,x5)=>
   bif x5 then
    if 0<=y7.N then
     if y7.N<(a0.p.AE.length:Int)then
      (idx a0.Aa y7.N).bind fun y19=>
      (bQ (!y19)).bind fun y20=>
      match y20 with
      | Sum.inr pv10=>(some (Sum.inr pv10)).bind fun r=>some (Sum.inr r)
      | Sum.inl _=>
      some (Sum.inl 0)
     else
      (bQ false).bind fun y21=>
      match y21 with
      | Sum.inr pv11=>(some (Sum.inr pv11)).bind fun r=>some (Sum.inr r)
      | Sum.inl _=>
      some (Sum.inl 0)
    else
     (bQ false).bind fun y22=>
     match y22 with
     | Sum.inr pv12=>(some (Sum.inr pv12)).bind fun r=>some (Sum.inr r)
     | Sum.inl _=>
     some (Sum.inl 0)
   else
    (eR 262 (.agg #[]) y8).bind fun y23=>
    match y23 with
    | (_,x6)=>
    bif x6 then
     (bQ (decide (y7.N=0))).bind fun y24=>
     match y24 with
     | Sum.inr pv13=>(some (Sum.inr pv13)).bind fun r=>some (Sum.inr r)
     | Sum.inl _=>
     some (Sum.inl 1)
    else
     (bQ (decide (y7.N=0))).bind fun y25=>
     match y25 with
     | Sum.inr pv14=>(some (Sum.inr pv14)).bind fun r=>some (Sum.inr r)
     | Sum.inl _=>
     some (Sum.inl 0)).bind fun o=>match o with
 | Sum.inr r=>some r
 | Sum.inl x2=>lM m a0 a1 a2 y7 x2
section
variable {p:AL} {f m:Nat}
theorem rB {s:VS} (hs:WS p s) {n z:Int} {x:Af} (h:0<=n/\n<(p.AH.length:Int)/\idx s.AT n=some false) (hx:idx p.AH n=some x) {v:Value} (hv:kA x.Op=some v):
 fT (m+1) ⟨p,s.sz,s.AT,s.AX⟩ n z=jF m ⟨p,s.sz,s.AT,s.AX⟩ n z x v:=by
 obtain⟨h0,h1,h2⟩:=h
 obtain⟨b,hb⟩:=gX (xs:=s.sz) h0 (by rw [hs.sz];exact h1)
 rw [fT,a1V h0]
 dsimp only
 rw [a1V h1,h2,aC,show(!false)=true from rfl,eQ,aC,aC]
 dsimp only
 rw [aC,hb,aC,hx,aC,hv,aC]
 rfl
theorem mid_nil {a0:Ap} {n z:Int} {x:Af}:jF m a0 n z x .nilIface=some (.inr flaw):=rfl
theorem vK {a0:Ap} {n z:Int} {x:Af} {v:Value} {k:Int} (hn:gU v=some false) (hk:lS v=some k) (h:¬ (x.AW.length:Int)=k):jF m a0 n z x v=some (.inr flaw):=by
 rw [jF,hn,aC,show(!false)=true from rfl,a1Q,hk,aC,a1R h,dC];rfl
theorem aGG {a0:Ap} {n z:Int} {x:Af} {k:Int} (h:(x.AW.length:Int)=k):jF m a0 n z x (.iface 271 (.int .i64 k))=if x.N=0 then lM m a0 n z x 0 else some (.inr flaw):=by
 rw [jF,show gU (.iface 271 (.int .i64 k))=some false from rfl,aC,show(!false)=true from rfl,a1Q,show lS (.iface 271 (.int .i64 k))=some k from rfl,aC,a1S h,eQ,aC,aC]
 dsimp only
 rw [show eR 259 (.agg #[]) (.iface 271 (.int .i64 k))=some (.agg #[],false)from rfl,aC]
 dsimp only
 rw [a1P,show eR 260 (.agg #[]) (.iface 271 (.int .i64 k))=some (.agg #[],false)from rfl,aC]
 dsimp only
 rw [a1P,show eR 261 (.agg #[]) (.iface 271 (.int .i64 k))=some (.agg #[],false)from rfl,aC]
 dsimp only
 rw [a1P,show eR 262 (.agg #[]) (.iface 271 (.int .i64 k))=some (.agg #[],false)from rfl,aC]
 dsimp only
 rw [a1P]
 by_cases h0:x.N=0
 ·rw [a1S h0,eQ,a1V h0];rfl
 ·rw [a1R h0,dC,a1U h0];rfl
theorem aIP {a0:Ap} {n z:Int} {x:Af} (h:(x.AW.length:Int)=0):jF m a0 n z x (.iface 259 (.agg ⟨[]⟩))=if 0<=x.N/\x.N<z then lM m a0 n z x (min (x.Ag.length:Int) 3) else some (.inr flaw):=by
 rw [jF,show gU (.iface 259 (.agg ⟨[]⟩))=some false from rfl,aC,show(!false)=true from rfl,a1Q,show lS (.iface 259 (.agg ⟨[]⟩))=some 0 from rfl,aC,a1S h,eQ,aC,aC]
 dsimp only
 rw [show eR 259 (.agg #[]) (.iface 259 (.agg ⟨[]⟩))=some (.agg #[],true)from rfl,aC]
 dsimp only
 rw [a1Q]
 by_cases h0:0<=x.N
 ·rw [a1V h0];by_cases h1:x.N<z
  ·rw [a1S h1,eQ,a1V ⟨h0,h1⟩];rfl
  ·rw [a1R h1,dC,a1U (fun q=>h1 q.2)];rfl
 ·rw [a1U h0,dC,a1U (fun q=>h0 q.1)];rfl
theorem aKJ {a0:Ap} {n z:Int} {x:Af} (h:(x.AW.length:Int)=1):jF m a0 n z x (.iface 260 (.agg ⟨[]⟩))=if 0<=x.N/\x.N<z then lM m a0 n z x 0 else some (.inr flaw):=by
 rw [jF,show gU (.iface 260 (.agg ⟨[]⟩))=some false from rfl,aC,show(!false)=true from rfl,a1Q,show lS (.iface 260 (.agg ⟨[]⟩))=some 1 from rfl,aC,a1S h,eQ,aC,aC]
 dsimp only
 rw [show eR 259 (.agg #[]) (.iface 260 (.agg ⟨[]⟩))=some (.agg #[],false)from rfl,aC]
 dsimp only
 rw [a1P,show eR 260 (.agg #[]) (.iface 260 (.agg ⟨[]⟩))=some (.agg #[],true)from rfl,aC]
 dsimp only
 rw [a1Q]
 by_cases h0:0<=x.N
 ·rw [a1V h0];by_cases h1:x.N<z
  ·rw [a1S h1,eQ,a1V ⟨h0,h1⟩];rfl
  ·rw [a1R h1,dC,a1U (fun q=>h1 q.2)];rfl
 ·rw [a1U h0,dC,a1U (fun q=>h0 q.1)];rfl
theorem aI9 {a0:Ap} {n z:Int} {x:Af} (h:(x.AW.length:Int)=2):jF m a0 n z x (.iface 262 (.agg ⟨[]⟩))=if x.N=0 then lM m a0 n z x 1 else some (.inr flaw):=by
 rw [jF,show gU (.iface 262 (.agg ⟨[]⟩))=some false from rfl,aC,show(!false)=true from rfl,a1Q,show lS (.iface 262 (.agg ⟨[]⟩))=some 2 from rfl,aC,a1S h,eQ,aC,aC]
 dsimp only
 rw [show eR 259 (.agg #[]) (.iface 262 (.agg ⟨[]⟩))=some (.agg #[],false)from rfl,aC]
 dsimp only
 rw [a1P,show eR 260 (.agg #[]) (.iface 262 (.agg ⟨[]⟩))=some (.agg #[],false)from rfl,aC]
 dsimp only
 rw [a1P,show eR 261 (.agg #[]) (.iface 262 (.agg ⟨[]⟩))=some (.agg #[],false)from rfl,aC]
 dsimp only
 rw [a1P,show eR 262 (.agg #[]) (.iface 262 (.agg ⟨[]⟩))=some (.agg #[],true)from rfl,aC]
 dsimp only
 rw [a1Q]
 by_cases h0:x.N=0
 ·rw [a1S h0,eQ,a1V h0];rfl
 ·rw [a1R h0,dC,a1U h0];rfl
theorem aIT {s:VS} (hs:WS p s) {n z:Int} {x:Af} (h:(x.AW.length:Int)=1):jF m ⟨p,s.sz,s.AT,s.AX⟩ n z x (.iface 261 (.agg ⟨[]⟩))=if 0<=x.N/\x.N<(p.AE.length:Int)/\idx s.AX x.N=some false then lM m ⟨p,s.sz,s.AT,s.AX⟩ n z x 0 else some (.inr flaw):=by
 rw [jF,show gU (.iface 261 (.agg ⟨[]⟩))=some false from rfl,aC,show(!false)=true from rfl,a1Q,show lS (.iface 261 (.agg ⟨[]⟩))=some 1 from rfl,aC,a1S h,eQ,aC,aC]
 dsimp only
 rw [show eR 259 (.agg #[]) (.iface 261 (.agg ⟨[]⟩))=some (.agg #[],false)from rfl,aC]
 dsimp only
 rw [a1P,show eR 260 (.agg #[]) (.iface 261 (.agg ⟨[]⟩))=some (.agg #[],false)from rfl,aC]
 dsimp only
 rw [a1P,show eR 261 (.agg #[]) (.iface 261 (.agg ⟨[]⟩))=some (.agg #[],true)from rfl,aC]
 dsimp only
 rw [a1Q]
 by_cases h0:0<=x.N
 ·rw [a1V h0];by_cases h1:x.N<(p.AE.length:Int)
  ·obtain⟨b,hb⟩:=gX (xs:=s.AX) h0 (by rw [hs.AX];exact h1)
   rw [a1V h1,hb,aC];cases b with
   | false=>rw [a1V ⟨h0,h1,rfl⟩];rfl
   | true=>rw [a1U (fun q=>by cases q.2.2)];rfl
  ·rw [a1U h1,dC,a1U (fun q=>h1 q.2.1)];rfl
 ·rw [a1U h0,dC,a1U (fun q=>h0 q.1)];rfl
theorem vis_go {s:VS} {n z:Int} {x:Af} (h:0<=n/\n<(p.AH.length:Int)/\idx s.AT n=some false) (hx:idx p.AH n=some x):(okN p s x z->vis p (f+1) s n z=rest p f s n z x)/\(¬ okN p s x z->vis p (f+1) s n z=none):=by
 constructor
 ·intro ho;simp only [vis];rw [a1V h,hx,aC,a1V ho];rfl
 ·intro ho;simp only [vis];rw [a1V h,hx,aC,a1U ho]
theorem node_go (hp:SmP p) (hm:3000000<=m) (hv:Vis p f (fT m)) {s:VS} (hs:WS p s) {n z:Int} (hu:unm s<=f+1) (hz:0<=z/\z+69+80*f<=100000) (h:0<=n/\n<(p.AH.length:Int)/\idx s.AT n=some false):
 fT (m+1) ⟨p,s.sz,s.AT,s.AX⟩ n z=some (kK p (vis p (f+1) s n z)):=by
 obtain⟨x,hx⟩:=gX h.1 h.2.1
 obtain⟨v1,v2⟩:=vis_go (f:=f) (z:=z) h hx
 have hun:∀ AX,unm ⟨s.sz.set n.toNat z,s.AT.set n.toNat true,AX⟩<=f:=fun AX=>by
  have:=aCb (p:=p) (z:=z) (AX:=AX) h.1 h.2.2;omega
 have hN:∀ {c k:Nat},shp x.Op=some (k,c)->okM p s x z c->x.Op=4->0<=x.N/\x.N<(p.AE.length:Int):=fun {c k} h1 h2 h4=>by
  rw [h4]at h1;have:(1,4)=(k,c):=a1L h1;cases this;exact⟨h2.1.1,h2.1.2.1⟩
 have fin:∀ {k c:Nat} (x2:Int),shp x.Op=some (k,c)->(x.AW.length:Int)=k->((x.Ag.length:Int)=x2->okM p s x z c)->(okM p s x z c->(x.Ag.length:Int)=x2)->lM m ⟨p,s.sz,s.AT,s.AX⟩ n z x x2=some (kK p (vis p (f+1) s n z)):=fun {k c} x2 h1 h2 h3 h4=>by
  by_cases ha:(x.Ag.length:Int)=x2
  ·rw [tail_eq hp hm hv hs (kD hx) hun hz (hN h1 (h3 ha)) ha];congr 2
   by_cases hall:x.Ag.all (okE z)=true
   ·rw [a1V hall,v1 ⟨⟨k,c,h1,by omega,h3 ha⟩,hall⟩]
   ·rw [a1U hall,v2 (fun q=>hall q.2)]
  ·rw [tail_bad ha,v2];rfl
   rintro⟨⟨k',c',g1,_,g3⟩,_⟩
   rw [h1]at g1;cases g1
   exact ha (h4 g3)
 have bad:∀ {k c:Nat},shp x.Op=some (k,c)->¬ ((x.AW.length:Int)=k/\okM p s x z c)->some (kK p (vis p (f+1) s n z))=some (.inr flaw):=fun {k c} h1 h2=>by
  rw [v2];rfl
  rintro⟨⟨k',c',g1,g2,g3⟩,_⟩
  rw [h1]at g1;cases g1
  exact h2 ⟨by omega,g3⟩
 by_cases o1:x.Op=1\/x.Op=7
 ·have hsh:shp x.Op=some (0,0):=by unfold shp;rw [a1V o1]
  rw [rB hs h hx (aIB o1)];by_cases hk:(x.AW.length:Int)=0
  ·rw [aGG hk];by_cases hn:x.N=0
   ·rw [a1V hn];exact fin 0 hsh hk (fun q=>⟨hn,by omega⟩) (fun q=>by have:=q.2;omega)
   ·rw [a1U hn,bad hsh (fun q=>hn q.2.1)]
  ·rw [vK rfl rfl hk,bad hsh (fun q=>hk q.1)]
 ·by_cases o3:x.Op=3
  ·have hsh:shp x.Op=some (2,0):=by unfold shp;rw [a1U o1,a1V o3]
   rw [rB hs h hx (by rw [o3];exact aJU)];by_cases hk:(x.AW.length:Int)=2
   ·rw [aGG hk];by_cases hn:x.N=0
    ·rw [a1V hn];exact fin 0 hsh hk (fun q=>⟨hn,by omega⟩) (fun q=>by have:=q.2;omega)
    ·rw [a1U hn,bad hsh (fun q=>hn q.2.1)]
   ·rw [vK rfl rfl hk,bad hsh (fun q=>hk q.1)]
  ·by_cases o2:x.Op=2
   ·have hsh:shp x.Op=some (0,1):=by unfold shp;rw [a1U o1,a1U o3,a1V o2]
    rw [rB hs h hx (by rw [o2];exact aJ1)];by_cases hk:(x.AW.length:Int)=0
    ·rw [aIP hk];by_cases hn:0<=x.N/\x.N<z
     ·rw [a1V hn];exact fin _ hsh hk (fun q=>⟨hn,by omega⟩) (fun q=>by have:=q.2;omega)
     ·rw [a1U hn,bad hsh (fun q=>hn q.2.1)]
    ·rw [vK rfl rfl hk,bad hsh (fun q=>hk q.1)]
   ·by_cases o5:x.Op=5
    ·have hsh:shp x.Op=some (2,2):=by unfold shp;rw [a1U o1,a1U o3,a1U o2,a1V o5]
     rw [rB hs h hx (by rw [o5];exact aIN)];by_cases hk:(x.AW.length:Int)=2
     ·rw [aI9 hk];by_cases hn:x.N=0
      ·rw [a1V hn];exact fin 1 hsh hk (fun q=>⟨hn,by omega⟩) (fun q=>by have:=q.2;omega)
      ·rw [a1U hn,bad hsh (fun q=>hn q.2.1)]
     ·rw [vK rfl rfl hk,bad hsh (fun q=>hk q.1)]
    ·by_cases o6:x.Op=6\/x.Op=8
     ·have hsh:shp x.Op=some (1,3):=by unfold shp;rw [a1U o1,a1U o3,a1U o2,a1U o5,a1V o6]
      rw [rB hs h hx (aJE o6)];by_cases hk:(x.AW.length:Int)=1
      ·rw [aKJ hk];by_cases hn:0<=x.N/\x.N<z
       ·rw [a1V hn];exact fin 0 hsh hk (fun q=>⟨hn,by omega⟩) (fun q=>by have:=q.2;omega)
       ·rw [a1U hn,bad hsh (fun q=>hn q.2.1)]
      ·rw [vK rfl rfl hk,bad hsh (fun q=>hk q.1)]
     ·by_cases o4:x.Op=4
      ·have hsh:shp x.Op=some (1,4):=by unfold shp;rw [a1U o1,a1U o3,a1U o2,a1U o5,a1U o6,a1V o4]
       rw [rB hs h hx (by rw [o4];exact aKi)];by_cases hk:(x.AW.length:Int)=1
       ·rw [aIT hs hk];by_cases hn:0<=x.N/\x.N<(p.AE.length:Int)/\idx s.AX x.N=some false
        ·rw [a1V hn];exact fin 0 hsh hk (fun q=>⟨hn,by omega⟩) (fun q=>by have:=q.2;omega)
        ·rw [a1U hn,bad hsh (fun q=>hn q.2.1)]
       ·rw [vK rfl rfl hk,bad hsh (fun q=>hk q.1)]
      ·have hsh:shp x.Op=none:=by unfold shp;rw [a1U o1,a1U o3,a1U o2,a1U o5,a1U o6,a1U o4]
       rw [rB hs h hx (aJM hsh),mid_nil,v2];rfl
       rintro⟨⟨k',c',g1,_⟩,_⟩
       rw [hsh]at g1;cases g1
end
theorem aAu {p:AL} {f:Nat} {s:VS} {n z:Int} (h:¬ (0<=n/\n<(p.AH.length:Int)/\idx s.AT n=some false)):vis p f s n z=none:=by
 cases f with
 | zero=>rfl
 | succ f=>simp only [vis];rw [a1U h]
theorem aGR {s:VS} {n:Int} (h:idx s.AT n=some false):0<unm s:=List.countP_pos_iff.2 ⟨false,kD h,rfl⟩
theorem pvis {p:AL} (hp:SmP p) {b:Nat} (hb:3000000<=b) (f:Nat):Vis p f (fT (b+f+1)):=by
 induction f with
 | zero=>
  refine⟨fun s n z hs hu h0 h1=>?_⟩
  have h:¬ (0<=n/\n<(p.AH.length:Int)/\idx s.AT n=some false):=fun q=>by have:=aGR q.2.2;omega
  rw [aF9 hs h,aAu h];rfl
 | succ f ih=>
  refine⟨fun s n z hs hu h0 h1=>?_⟩
  by_cases h:0<=n/\n<(p.AH.length:Int)/\idx s.AT n=some false
  ·exact node_go hp (m:=b+f+1) (by omega) ih hs hu ⟨h0,by omega⟩ h
  ·rw [aF9 hs h,aAu h];rfl
open Go.SX Go.SW Go.Dt
def ob (l:List Bool):List Int:=l.map fun b=>if b=true then 1 else 0
theorem jL {l:List Bool}:(ob l).length=l.length:=by simp [ob]
theorem aCO {l:List Bool} {i:Int} {b:Bool} (h:idx l i=some b):idx (ob l) i=some (if b=true then 1 else 0):=by
 obtain⟨j,rfl,hj,_⟩:=uL h
 exact vJ (by simp [ob,hj])
theorem ob_set {l:List Bool} {i:Nat}:ob (l.set i true)=(ob l).set i 1:=by simp [ob,List.map_set]
theorem ob_rep {n:Nat}:ob (List.replicate n false)=List.replicate n 0:=by simp [ob]
def ROut (p:AL) (o:Option VS) (L:Aj):Prop:=match o with
 | some s=>L=⟨p,s.sz,ob s.AT,ob s.AX,false⟩
 | none=>L.bad=true/\L.An.length=p.AH.length/\L.Am.length=p.AE.length
structure RVis (p:AL) (f:Nat) (rec:Aj->Int->Int->Option Aj):Prop where
 run:∀ (s:VS) (n z:Int),WS p s->unm s<=f->0<=z->z+80*f<=100000->∃ L,rec ⟨p,s.sz,ob s.AT,ob s.AX,false⟩ n z=some L/\ROut p (vis p f s n z) L
theorem aJv {ch:List Ar} {sp:List As} {ru:List Al} {a nd:Int} (AD:List Int):∀ (AB:List Int) (k:Nat) (w:Int),AD.length<k->AB.length+AD.length<=1000->0<=w->w<=100000->(∀ c∈AD,∃ y,idx ch c=some y/\0<=y.Au/\y.Au<=3)->w+3*AD.length<=100000 ->
 sR ⟨ch,sp,ru⟩ ⟨a,AB++AD,nd⟩ k w AB.length=some (w+brs ch AD):=by
 induction AD with
 | nil=>
  intro AB k w hk _ _ _ _ _;obtain _ | k:=k
  ·omega
  rw [sR,a1U (by simp)];simp [brs]
 | cons e AD ih=>
  intro AB k w hk hB h0 h1 hm hw;obtain _ | k:=k
  ·omega
  simp only [a0M]at hk hB hw;obtain⟨y,g1,g2,g3⟩:=hm e (.head _);rw [sR,a1V (dB _ _ _)];dsimp only
  rw [cY,aC,g1,aC,bK (by omega),aC,bK (by omega),aC,eI AB AD e,cN AB e,ih (AB++[e]) k _ (by omega) (by simp;omega) (by omega) (by omega) (fun c hc=>hm c (.tail _ hc)) (by omega)];simp only [brs,g1];congr 1;omega
theorem more_eq {AA:Nat} {d:AN} {r:Al} (hf:3000<=AA) (h:cR d=true) (hr:r∈d.AO):wW AA d r=some (brs d.AQ r.AZ):=by
 obtain⟨_,_,_,_,h5⟩:=pL h
 obtain⟨g1,g2⟩:=h5 r hr
 have:=aJv (ch:=d.AQ) (sp:=d.AP) (ru:=d.AO) (a:=r.At) (nd:=r.AU) r.AZ [] AA 0 (by omega) (by simp;omega) (by omega) (by omega) g2 (by omega)
 simp only [a1l,a0O,a0n]at this
 rw [wW,this,aC];congr 1;omega
theorem pG {rec:Aj->Int->Int->Option Aj} {y:Af} {z i:Int} {k:Nat} {a:List ByteArray} {b:List Af} {c:List AN} {d:Int} {sz ow us:List Int}:
 lB rec y z (k+1) i a b c d sz ow us true=some ⟨⟨a,b,c,d⟩,sz,ow,us,true⟩:=by
 rw [lB];split
 ·rw [a1Q]
 ·rfl
theorem d1_bad {AA:Nat} {rec:Aj->Int->Int->Option Aj} {y:AN} {z i:Int} {k:Nat} {a:List ByteArray} {b:List Af} {c:List AN} {d:Int} {sz ow us:List Int}:
 nD AA rec y z (k+1) i a b c d sz ow us true=some (a,b,c,d,sz,ow,us,true):=by
 rw [nD];split
 ·rw [a1Q]
 ·rfl
theorem aDk {rec:Aj->Int->Int->Option Aj} {y:AN} {z i:Int} {k:Nat} {a:List ByteArray} {b:List Af} {c:List AN} {d:Int} {sz ow us:List Int}:
 mY rec y z (k+1) i a b c d sz ow us true=some ⟨⟨a,b,c,d⟩,sz,ow,us,true⟩:=by
 rw [mY];split
 ·rw [a1Q]
 ·rfl
section
variable {p:AL} {f:Nat} {rec:Aj->Int->Int->Option Aj}
theorem rk2q (hv:RVis p f rec) {op nn:Int} {ar:List Ah} {z:Int} (hz:0<=z/\z+80*f<=100000) (AD:List Int):∀ (AB:List Int) (k:Nat) (s:VS),AD.length<k->AB.length+AD.length<=3000000->WS p s->unm s<=f ->
 ∃ L,lB rec ⟨op,nn,ar,AB++AD⟩ z k AB.length p.AF p.AH p.AE p.AG s.sz (ob s.AT) (ob s.AX) false=some L/\ROut p (cL (vis p f) s (AD.map fun k=>(k,z))) L:=by
 induction AD with
 | nil=>
  intro AB k s hk _ hs hu;obtain _ | k:=k
  ·omega
  exact⟨_,by rw [lB,a1U (by simp)],rfl⟩
 | cons e AD ih=>
  intro AB k s hk hB hs hu;obtain _ | k:=k
  ·omega
  simp only [a0M]at hk hB;obtain⟨L,h1,h2⟩:=hv.run s e z hs hu hz.1 hz.2;rw [lB,a1V (dB _ _ _),a1P];dsimp only
  rw [cY,aC,show(⟨⟨p.AF,p.AH,p.AE,p.AG⟩,s.sz,ob s.AT,ob s.AX,false⟩:Aj)=⟨p,s.sz,ob s.AT,ob s.AX,false⟩from rfl,h1,aC,bK (by omega),aC,eI AB AD e,cN AB e];simp only [a0W,cL];cases hc:vis p f s e z with
  | none=>
   rw [hc]at h2;obtain⟨g1,g2,g3⟩:=h2;obtain _ | k:=k
   ·omega
   rw [g1,pG];exact⟨_,rfl,rfl,g2,g3⟩
  | some s1=>
   rw [hc]at h2;have h2:L=_:=h2;subst h2;obtain⟨w1,u1⟩:=(visO p f).out _ _ _ _ hs hu hc;rw [aC];exact ih (AB++[e]) k s1 (by omega) (by simp;omega) w1 (by omega)
theorem rd2q (hv:RVis p f rec) {ch:List Ar} {ru:List Al} {z:Int} (hz:0<=z/\z+80*f<=100000) (AD:List As):∀ (AB:List As) (k:Nat) (s:VS),AD.length<k->AB.length+AD.length<=3000000->WS p s->unm s<=f ->
 ∃ L,mY rec ⟨ch,AB++AD,ru⟩ z k AB.length p.AF p.AH p.AE p.AG s.sz (ob s.AT) (ob s.AX) false=some L/\ROut p (cL (vis p f) s (AD.map fun y=>(y.AU,z))) L:=by
 induction AD with
 | nil=>
  intro AB k s hk _ hs hu;obtain _ | k:=k
  ·omega
  exact⟨_,by rw [mY,a1U (by simp)],rfl⟩
 | cons e AD ih=>
  intro AB k s hk hB hs hu;obtain _ | k:=k
  ·omega
  simp only [a0M]at hk hB;obtain⟨L,h1,h2⟩:=hv.run s e.AU z hs hu hz.1 hz.2;rw [mY,a1V (dB _ _ _),a1P];dsimp only
  rw [cY,aC,show(⟨⟨p.AF,p.AH,p.AE,p.AG⟩,s.sz,ob s.AT,ob s.AX,false⟩:Aj)=⟨p,s.sz,ob s.AT,ob s.AX,false⟩from rfl,h1,aC,bK (by omega),aC,eI AB AD e,cN AB e];simp only [a0W,cL];cases hc:vis p f s e.AU z with
  | none=>
   rw [hc]at h2;obtain⟨g1,g2,g3⟩:=h2;obtain _ | k:=k
   ·omega
   rw [g1,aDk];exact⟨_,rfl,rfl,g2,g3⟩
  | some s1=>
   rw [hc]at h2;have h2:L=_:=h2;subst h2;obtain⟨w1,u1⟩:=(visO p f).out _ _ _ _ hs hu hc;rw [aC];exact ih (AB++[e]) k s1 (by omega) (by simp;omega) w1 (by omega)
abbrev T8:=List ByteArray × List Af × List AN × Int × List Int × List Int × List Int × Bool
def ROut8 (p:AL) (o:Option VS) (t:T8):Prop:=match o with
 | some s=>t=(p.AF,p.AH,p.AE,p.AG,s.sz,ob s.AT,ob s.AX,false)
 | none=>t.2.2.2.2.2.2.2=true/\t.2.2.2.2.2.1.length=p.AH.length/\t.2.2.2.2.2.2.1.length=p.AE.length
theorem rd1q (hv:RVis p f rec) {AA:Nat} {d:AN} (hd:cR d=true) (hf:3000<=AA) {z:Int} (hz:0<=z/\z+9+80*f<=100000) (AD:List Al):∀ (AB:List Al) (k:Nat) (s:VS),d.AO=AB++AD->AD.length<k->AB.length+AD.length<=3000000->WS p s->unm s<=f ->
 ∃ t,nD AA rec d z k AB.length p.AF p.AH p.AE p.AG s.sz (ob s.AT) (ob s.AX) false=some t/\ROut8 p (cL (vis p f) s (AD.map fun r=>(r.AU,z+brs d.AQ r.AZ))) t:=by
 induction AD with
 | nil=>
  intro AB k s he hk _ hs hu;obtain _ | k:=k
  ·omega
  exact⟨_,by rw [nD,he,a1U (by simp)],rfl⟩
 | cons e AD ih=>
  intro AB k s he hk hB hs hu;obtain _ | k:=k
  ·omega
  simp only [a0M]at hk hB;have hmem:e∈d.AO:=by rw [he];simp
  obtain⟨_,_,_,_,h5⟩:=pL hd;obtain⟨g1,g2⟩:=h5 e hmem;have hb:=aBf g2;obtain⟨L,h1,h2⟩:=hv.run s e.AU (z+brs d.AQ e.AZ) hs hu (by omega) (by omega)
  rw [nD,he,a1V (dB _ _ _),<- he,a1P,show idx d.AO (AB.length:Int)=some e from by rw [he];exact cY _ _ _,aC,aC,
   show(⟨d.AQ,d.AP,d.AO⟩:AN)=d from rfl,more_eq hf hd hmem,aC,bK (by omega),aC,
   show(⟨⟨p.AF,p.AH,p.AE,p.AG⟩,s.sz,ob s.AT,ob s.AX,false⟩:Aj)=⟨p,s.sz,ob s.AT,ob s.AX,false⟩from rfl,h1,aC,bK (by omega),aC,cN AB e]
  simp only [a0W,cL];cases hc:vis p f s e.AU (z+brs d.AQ e.AZ)with
  | none=>
   rw [hc]at h2;obtain⟨g1,g2,g3⟩:=h2;obtain _ | k:=k
   ·omega
   rw [g1,d1_bad];exact⟨_,rfl,rfl,g2,g3⟩
  | some s1=>
   rw [hc]at h2;have h2:L=_:=h2;subst h2;obtain⟨w1,u1⟩:=(visO p f).out _ _ _ _ hs hu hc;rw [aC];exact ih (AB++[e]) k s1 (by rw [he];simp) (by omega) (by simp;omega) w1 (by omega)
theorem rdef {m:Nat} (hv:RVis p f (fH m)) {d:AN} (hd:cR d=true) (hsm:smDq d) (hm:3000000<=m) {z:Int} (hz:0<=z/\z+9+80*f<=100000) {s:VS} (hs:WS p s) (hu:unm s<=f):
 ∃ L,mT (m+1) ⟨p,s.sz,ob s.AT,ob s.AX,false⟩ d z=some L/\ROut p ((cL (vis p f) s (d.AO.map fun r=>(r.AU,z+brs d.AQ r.AZ))).bind fun s1=>cL (vis p f) s1 (d.AP.map fun y=>(y.AU,z))) L:=by
 obtain⟨c1,c2,c3,_⟩:=hsm
 obtain⟨t,h1,h2⟩:=rd1q hv hd (AA:=m) (by omega) hz d.AO [] m s rfl (by omega) (by simp;omega) hs hu
 simp only [a0O,a0n]at h1
 rw [mT,h1,aC]
 cases hc:cL (vis p f) s (d.AO.map fun r=>(r.AU,z+brs d.AQ r.AZ))with
 | none=>
  rw [hc]at h2;obtain⟨a,b,c,e,sz,ow,us,bd⟩:=t;obtain⟨g1,g2,g3⟩:=h2;dsimp only at g1 g2 g3
  subst g1;obtain⟨m,rfl⟩:∃ k,m=k+1:=⟨m - 1,by omega⟩
  dsimp only
  rw [aDk];exact⟨_,rfl,rfl,g2,g3⟩
 | some s1=>
  rw [hc]at h2;have h2:t=_:=h2;subst h2;obtain⟨w1,u1⟩:=lY (visO p f) _ _ _ hs hu hc;obtain⟨L,h3,h4⟩:=rd2q hv (ch:=d.AQ) (ru:=d.AO) (z:=z) ⟨by omega,by omega⟩ d.AP [] m s1 (by omega) (by simp;omega) w1 (by omega)
  simp only [a1l,a0O,a0n]at h3;exact⟨L,h3,h4⟩
theorem rdef_bad {m:Nat} (hm:0<m) {L:Aj} (hb:L.bad=true) {d:AN} {z:Int}:mT (m+1) L d z=some L:=by
 obtain⟨k,rfl⟩:∃ k,m=k+1:=⟨m - 1,by omega⟩
 obtain⟨q,sz,ow,us,bd⟩:=L
 dsimp only at hb
 subst hb
 rw [mT]
 dsimp only
 rw [d1_bad,aC]
 dsimp only
 rw [aDk]
end
theorem rn1_bad {AA:Nat} {op nn:Int} {ks:List Int} {z:Int} (AD:List Ah):∀ (AB:List Ah) (k:Nat),AD.length<k->AB.length+AD.length<=3000000 ->
 lE AA z ⟨op,nn,AB++AD,ks⟩ k AB.length true=some true:=by
 induction AD with
 | nil=>
  intro AB k hk _;obtain _ | k:=k
  ·omega
  rw [lE,a1U (by simp)]
 | cons e AD ih=>
  intro AB k hk hB;obtain _ | k:=k
  ·omega
  simp only [a0M]at hk hB;rw [lE,a1V (dB _ _ _),a1Q,aC,bK (by omega),aC,eI AB AD e,cN AB e];exact ih (AB++[e]) k (by omega) (by simp;omega)
theorem rn1 {AA:Nat} (hf:3000000<=AA) {op nn:Int} {ks:List Int} {z:Int} (AD:List Ah):∀ (AB:List Ah) (k:Nat),AD.length<k->AB.length+AD.length<=3000000->(∀ e∈AD,nE e<=2000000) ->
 lE AA z ⟨op,nn,AB++AD,ks⟩ k AB.length false=some (!AD.all (okE z)):=by
 induction AD with
 | nil=>
  intro AB k hk _ _;obtain _ | k:=k
  ·omega
  rw [lE,a1U (by simp)];rfl
 | cons e AD ih=>
  intro AB k hk hB he;obtain _ | k:=k
  ·omega
  simp only [a0M]at hk hB;have hn:=he e (.head _);rw [lE,a1V (dB _ _ _),a1P,show(e :: AD).all (okE z)=(okE z e && AD.all (okE z))from rfl];dsimp only
  rw [cY,aC,aIk (by omega) (by omega),aC,aC,bK (by omega),aC,eI AB AD e,cN AB e];cases h1:okE z e with
  | false=>exact rn1_bad AD (AB++[e]) k (by omega) (by simp;omega)
  | true=>
   rw [a0m];exact ih (AB++[e]) k (by omega) (by simp;omega) (fun x hx=>he x (.tail _ hx))
end Go.Proofs.YtjahnkcjbglnoaaGreatDoor

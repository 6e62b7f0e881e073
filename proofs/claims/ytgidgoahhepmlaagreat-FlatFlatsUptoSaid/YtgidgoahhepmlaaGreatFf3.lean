/- Parts of the proof: lemmas, and the steps through the program. -/
import Derived.Test.YtgidgoahhepmlaaGreatFf2
import Derived.DefersIn
import Derived.Below
set_option linter.unusedVariables false
set_option linter.unusedSimpArgs false
set_option maxRecDepth 100000
set_option maxHeartbeats 2000000
namespace Go.Proofs.YtgidgoahhepmlaaGreat
open Go.SX Go.SW Go.Dt
attribute [local irreducible] Code.wpIn wpListIn Exit.then Exit.inBlock
def nF (rec_r03_below:AI->(List Int)->Int->Option (List Int)) (a0:AI) (y2:List Int):Nat->(List Int)->Int->Option (List Int)
| 0,_,_=>none
| k+1,x4,x5=>
 if x5<(y2.length:Int)then
  (idx y2 x5).bind fun y3=>
  (rec_r03_below (⟨a0.AF,a0.AD,a0.AE,a0.AG⟩:AI) x4 y3).bind fun y4=>
  (chk (x5+1)).bind fun z1=>
  nF rec_r03_below a0 y2 k y4 z1
 else
  some x4
def lC:Nat->AI->(List Int)->Int->Option (List Int)
| 0,_,_,_=>none
| AA+1,a0,a1,a2=>
 (iE AA a1 a2).bind fun y1=>
 (vV AA (⟨a0.AF,a0.AD,a0.AE,a0.AG⟩:AI) a2).bind fun y2=>
 (nF (lC AA) a0 y2 AA y1 0).bind fun x1=>
 some x1
theorem aJC:∀ (AA:Nat),(∀  (a0:AI) (a1:List Int) (a2:Int) (r:List Int) (H:lC AA a0 a1 a2=some r),FnS Tryz.prog 92 [fSt cK a0,fSl tI a1,fI a2] [] (fSl tI r) (fun _=>[])):=by
 intro AA
 induction AA with
 | zero=>exact fun a0 a1 a2 r H=>(by rw [lC]at H;cases H)
 | succ AA ih=>
 have ih_r03_below:=@ih
 refine ?_
 intro a0 a1 a2 r H
 rw [lC]at H
 refine bD Tryz.func92 rfl Tryz.ntmps92 rfl (fun β=>?_)
 refine Z1 ?_
 refine Tn (bR rfl hh bO) fun b1=>?_
 revert H;refine B5 fun y1 h1 H=>?_
 refine Tc (xQ _ _ _ _ h1) ?_
 revert H;refine B5 fun y2 h2 H=>?_
 refine Tc (aJm _ _ _ _ h2) ?_
 revert H;refine B2 fun o1 H Hr1=>?_
 refine aP (ι:=List Int) (fun i=>o1=i) (fun i=>[(1,fSl tI i)]) (fun i=>[aA b1 26 [fSl aD a0.AF,fSl aN a0.AD,fSl aB a0.AE,fI a0.AG]]) ?_ ?_
 refine Z4 ?_
 refine Tl (ι:=Nat × List Int × Int) (fun i=>nF (lC AA) a0 y2 i.1 i.2.1 i.2.2=_) (fun i=>i.1) (fun i=>[(1,fSl tI i.2.1),(3,fEq (ptr b1)),(7,fSl tI y2),(8,fI i.2.2)]) (fun i=>[aA b1 26 [fSl aD a0.AF,fSl aN a0.AD,fSl aB a0.AE,fI a0.AG]]) (AA,y1,0) H ?_
 clear H;rintro⟨k1,x4,x5⟩ H
 replace H:nF (lC AA) a0 y2 k1 x4 x5=_:=H
 try dsimp only
 obtain _ | k1:=k1
 rw [nF]at H;cases H
 rw [nF]at H
 refine aI ?_
 revert H;refine I6 (fun c1 H=>?_) fun c1 H=>?_
 refine Z3 ?_
 refine aI ?_
 revert H;refine B1 fun y3 h3 H=>?_
 revert H;refine bs fun y4 h4 H=>?_
 apply bJ (ods:=[_,_,_,_,_,_,_,_]) 8 0 1 bI rfl rfl rfl
 refine ND ?_
 refine M6 ?_
 intros
 refine Nc (ih_r03_below _ _ _ _ h4) fun _=>?_
 refine M1 ?_
 intros
 revert H;refine B6 fun z1 h5 H=>?_
 refine Z3 ?_
 exact Tm ((k1,y4,z1)) ⟨H,ls⟩
 exact fk
 kernel_rfl
 refine Z6 ?_
 exact Tm (x4) (ij H)
 clear H;intro x1 hi;subst o1;have H:=Hr1;clear Hr1;try dsimp only at H
 try dsimp only
 refine Z5 ?_
 cases H
 refine aE [] (by decide) ?_
 exact To
def aAf (AA:Nat) (a0:AI) (a1:Int):Option (List Int):=
 (lC AA (⟨a0.AF,a0.AD,a0.AE,a0.AG⟩:AI) [] a1).bind fun y1=>
 some y1
theorem aH0 (AA:Nat)  (a0:AI) (a1:Int) (r:List Int) (H:aAf AA a0 a1=some r):FnS Tryz.prog 61 [fSt cK a0,fI a1] [] (fSl tI r) (fun _=>[]):=by
 unfold aAf at H
 refine bD Tryz.func61 rfl Tryz.ntmps61 rfl (fun β=>?_)
 refine Z1 ?_
 refine Tn (bR rfl hh bO) fun b1=>?_
 revert H;refine B5 fun y1 h1 H=>?_
 refine gF a1Z rfl rfl rfl hh (aJ.cons hh (aJ.cons (fZ rfl dF) (aJ.cons hh aJ.nil))) rfl (cb rfl) (aJC AA (⟨a0.AF,a0.AD,a0.AE,a0.AG⟩:AI) [] a1 y1 h1) rfl ?_
 refine Z3 ?_
 cases H
 refine aE [] (by decide) ?_
 exact To
def lD (rec_r03_needExp:(List Int)->AR->Int->Option (List Int)) (a1:AR) (a2:Int):Nat->(List Int)->Int->Option (List Int)
| 0,_,_=>none
| k+1,x5,x6=>
 if x6<(a1.AN.length:Int)then
  (idx a1.AN x6).bind fun y2=>
  (rec_r03_needExp x5 y2 a2).bind fun y3=>
  (chk (x6+1)).bind fun z1=>
  lD rec_r03_needExp a1 a2 k y3 z1
 else
  some x5
def jY:Nat->(List Int)->AR->Int->Option (List Int)
| 0,_,_,_=>none
| AA+1,a0,a1,a2=>
 (if a1.Op=2 then
  if a1.N<a2 then
   (iE AA a0 a1.N).bind fun y1=>
   some y1
  else
   some a0
 else
  some a0).bind fun x1=>
 (lD (jY AA) a1 a2 AA x1 0).bind fun x2=>
 some x2
theorem aIu:∀ (AA:Nat),(∀  (a0:List Int) (a1:AR) (a2:Int) (r:List Int) (H:jY AA a0 a1 a2=some r),FnS Tryz.prog 63 [fSl tI a0,fSt aO a1,fI a2] [] (fSl tI r) (fun _=>[])):=by
 intro AA
 induction AA with
 | zero=>exact fun a0 a1 a2 r H=>(by rw [jY]at H;cases H)
 | succ AA ih=>
 have ih_r03_needExp:=@ih
 refine ?_
 intro a0 a1 a2 r H
 rw [jY]at H
 refine bD Tryz.func63 rfl Tryz.ntmps63 rfl (fun β=>?_)
 refine Z1 ?_
 refine Tn (bR rfl hh bO) fun b1=>?_
 revert H;refine B2 fun o1 H Hr1=>?_
 refine aP (ι:=List Int) (fun i=>o1=i) (fun i=>[(0,fSl tI i),(2,fI a2),(4,fEq (ptr b1))]) (fun i=>[aA b1 71 [fI a1.Op,fI a1.N,dD a1.AN]]) ?_ ?_
 revert H;refine I5 (fun c1 H=>?_) fun c1 H=>?_
 revert H;refine I6 (fun c2 H=>?_) fun c2 H=>?_
 revert H;refine B5 fun y1 h1 H=>?_
 refine Tc (xQ _ _ _ _ h1) ?_
 refine Z2 ?_
 exact Tm (y1) (ij H)
 refine Z3 ?_
 exact Tm (a0) (ij H)
 refine Z9 ?_
 exact Tm (a0) (ij H)
 clear H;intro x1 hi;subst o1;have H:=Hr1;clear Hr1;try dsimp only at H
 try dsimp only
 revert H;refine bs fun o2 H Hr2=>?_
 refine aP (ι:=List Int) (fun i=>o2=i) (fun i=>[(0,fSl tI i)]) (fun i=>[aA b1 71 [fI a1.Op,fI a1.N,dD a1.AN]]) ?_ ?_
 refine Z4 ?_
 refine Tl (ι:=Nat × List Int × Int) (fun i=>lD (jY AA) a1 a2 i.1 i.2.1 i.2.2=_) (fun i=>i.1) (fun i=>[(0,fSl tI i.2.1),(2,fI a2),(4,fEq (ptr b1)),(7,fI i.2.2)]) (fun i=>[aA b1 71 [fI a1.Op,fI a1.N,dD a1.AN]]) (AA,x1,0) H ?_
 clear H;rintro⟨k1,x5,x6⟩ H
 replace H:lD (jY AA) a1 a2 k1 x5 x6=_:=H
 try dsimp only
 obtain _ | k1:=k1
 rw [lD]at H;cases H
 rw [lD]at H
 refine aI ?_
 refine Z3 ?_
 refine Yo 0 rfl (bA rfl hh (sc rfl) rfl (eQ eG)) ?_
 revert H;refine I3 (fun c3 H=>?_) fun c3 H=>?_
 refine Z3 ?_
 refine aI ?_
 refine Z4 ?_
 refine Yo 0 rfl (bA rfl hh (sc rfl) rfl (eQ eG)) ?_
 revert H;refine B1 fun y2 h2 H=>?_
 revert H;refine B3 fun y3 h3 H=>?_
 refine Tc (ih_r03_needExp _ _ _ _ h3) ?_
 revert H;refine B6 fun z1 h4 H=>?_
 refine Z3 ?_
 exact Tm ((k1,y3,z1)) ⟨H,ls⟩
 refine Z6 ?_
 exact Tm (x5) (ij H)
 clear H;intro x2 hi;subst o2;have H:=Hr2;clear Hr2;try dsimp only at H
 try dsimp only
 refine Z5 ?_
 cases H
 refine aE [] (by decide) ?_
 exact To
def jK (AA:Nat) (y2:Int) (y5:AW):Nat->(List Int)->Int->Option (List Int)
| 0,_,_=>none
| k+1,x10,x11=>
 if x11<(y5.AS.length:Int)then
  (idx y5.AS x11).bind fun y9=>
  (jY AA x10 y9 y2).bind fun y10=>
  (chk (x11+1)).bind fun z1=>
  jK AA y2 y5 k y10 z1
 else
  some x10
def oF (AA:Nat) (a0:AI) (y2:Int) (y3:List Int):Nat->(List Int)->Int->Option (List Int)
| 0,_,_=>none
| k+1,x4,x5=>
 if x5<(y3.length:Int)then
  ((idx y3 x5).bind fun y4=>
  (idx a0.AD y4).bind fun y5=>
  (if y5.Op=2 then
   if y5.N<y2 then
    (iE AA x4 y5.N).bind fun y6=>
    some y6
   else
    some x4
  else
   if y5.Op=6 then
    if y5.N<y2 then
     (iE AA x4 y5.N).bind fun y7=>
     some y7
    else
     some x4
   else
    if y5.Op=8 then
     if y5.N<y2 then
      (iE AA x4 y5.N).bind fun y8=>
      some y8
     else
      some x4
    else
     some x4).bind fun x7=>
  jK AA y2 y5 AA x7 0).bind fun x6=>
  (chk (x5+1)).bind fun z2=>
  oF AA a0 y2 y3 k x6 z2
 else
  some x4
def iP (AA:Nat) (a0:AI) (a1:Int):Option (List Int):=
 (uB AA (⟨a0.AF,a0.AD,a0.AE,a0.AG⟩:AI)).bind fun y1=>
 (idx y1 a1).bind fun y2=>
 (aAf AA (⟨a0.AF,a0.AD,a0.AE,a0.AG⟩:AI) a1).bind fun y3=>
 (oF AA a0 y2 y3 AA [] 0).bind fun x1=>
 some x1
theorem aBi (AA:Nat)  (a0:AI) (a1:Int) (r:List Int) (H:iP AA a0 a1=some r):FnS Tryz.prog 34 [fSt cK a0,fI a1] [] (fSl tI r) (fun _=>[]):=by
 unfold iP at H
 refine bD Tryz.func34 rfl Tryz.ntmps34 rfl (fun β=>?_)
 refine Z1 ?_
 refine Tn (bR rfl hh bO) fun b1=>?_
 revert H;refine B4 fun y1 h1 H=>?_
 refine Tc (aFo _ _ _ h1) ?_
 revert H;refine B1 fun y2 h2 H=>?_
 revert H;refine B10 fun y3 h3 H=>?_
 refine Tc (aH0 _ _ _ _ h3) ?_
 revert H;refine B2 fun o1 H Hr1=>?_
 refine aP (ι:=List Int) (fun i=>o1=i) (fun i=>[(6,fSl tI i)]) (fun i=>[aA b1 26 [fSl aD a0.AF,fSl aN a0.AD,fSl aB a0.AE,fI a0.AG]]) ?_ ?_
 refine Z4 ?_
 refine kG (ι:=Nat × List Int × Int) (fun i=>oF AA a0 y2 y3 i.1 i.2.1 i.2.2=_) (fun i=>i.1) (fun i=>[(2,fEq (ptr b1)),(5,fI y2),(6,fSl tI i.2.1),(7,fSl tI y3),(8,fI i.2.2)]) (fun i=>[aA b1 26 [fSl aD a0.AF,fSl aN a0.AD,fSl aB a0.AE,fI a0.AG]]) (AA,[],0) H (Sc (Sc (cG.cons (iI rfl dF) (Sc (Sc cG.nil))))) rfl ?_
 clear H;rintro⟨k1,x4,x5⟩ H
 replace H:oF AA a0 y2 y3 k1 x4 x5=_:=H
 try dsimp only
 obtain _ | k1:=k1
 rw [oF]at H;cases H
 rw [oF]at H
 refine aI ?_
 revert H;refine I6 (fun c1 H=>?_) fun c1 H=>?_
 revert H;refine B3 fun o2 H Hr2=>?_
 refine aP (ι:=List Int) (fun i=>o2=i) (fun i=>[(2,fEq (ptr b1)),(5,fI y2),(6,fSl tI i),(7,fSl tI y3),(8,fI x5)]) (fun i=>[aA b1 26 [fSl aD a0.AF,fSl aN a0.AD,fSl aB a0.AE,fI a0.AG]]) ?_ ?_
 refine Z1 ?_
 refine aI ?_
 revert H;refine bs fun y4 h4 H=>?_
 revert H;refine bs fun y5 h5 H=>?_
 apply bJ (ods:=[_,_,_,_,_,_,_,_,_,_]) 10 1 2 bI rfl rfl rfl
 refine ND ?_
 refine M8 ?_
 intros
 refine Mn 1 (fun b2=>ptr b2) (fun b2=>aA b2 65 [fI 0,fI 0,fEq (.slice none 0 0),fEq (.slice none 0 0)]) rfl (bP rfl mG rfl) (fun b2 u1=>?_)
 refine nZ (od:=od1 8 [1] true (fun b2 _=>dZ) (fun b2 _=>[aA b2 65 [fI y5.Op,fI y5.N,fSl aO y5.AS,fSl tI y5.AN]])) (p:=1) (φs':=[fI y5.Op,fI y5.N,fSl aO y5.AS,fSl tI y5.AN]) rfl (fun _=>rfl) (fun _=>rfl) a1Z rfl rfl rfl (has rfl) (has rfl) (aG (aH a1Z) (aG (aH a1Z) (aG (aT) (aG (aT) bH)))) (sz rfl) rfl rfl rfl (fun _=>?_)
 revert H;refine B2 fun o3 H Hr3=>?_
 refine aP (ι:=List Int) (fun i=>o3=i) (fun i=>[(2,fEq (ptr b1)),(5,fI y2),(6,fSl tI i),(7,fSl tI y3),(8,fI x5),(9,fEq (ptr b2))]) (fun i=>[aA b1 26 [fSl aD a0.AF,fSl aN a0.AD,fSl aB a0.AE,fI a0.AG],aA b2 65 [fI y5.Op,fI y5.N,fSl aO y5.AS,fSl tI y5.AN]]) ?_ ?_
 revert H;refine I5 (fun c2 H=>?_) fun c2 H=>?_
 refine Z12 ?_
 revert H;refine I4 (fun c3 H=>?_) fun c3 H=>?_
 revert H;refine B5 fun y6 h6 H=>?_
 refine Tc (xQ _ _ _ _ h6) ?_
 refine Z2 ?_
 exact Tm (y6) (ij H)
 refine Z3 ?_
 exact Tm (x4) (ij H)
 revert H;refine I5 (fun c4 H=>?_) fun c4 H=>?_
 revert H;refine I11 (fun c5 H=>?_) fun c5 H=>?_
 revert H;refine B5 fun y7 h7 H=>?_
 refine Tc (xQ _ _ _ _ h7) ?_
 refine Z2 ?_
 exact Tm (y7) (ij H)
 refine Z3 ?_
 exact Tm (x4) (ij H)
 revert H;refine I5 (fun c6 H=>?_) fun c6 H=>?_
 revert H;refine I6 (fun c7 H=>?_) fun c7 H=>?_
 revert H;refine B5 fun y8 h8 H=>?_
 refine Tc (xQ _ _ _ _ h8) ?_
 refine Z2 ?_
 exact Tm (y8) (ij H)
 refine Z3 ?_
 exact Tm (x4) (ij H)
 refine Z9 ?_
 exact Tm (x4) (ij H)
 clear H;intro x7 hi;subst o3;have H:=Hr3;clear Hr3;try dsimp only at H
 try dsimp only
 refine Z4 ?_
 refine Tl (ι:=Nat × List Int × Int) (fun i=>jK AA y2 y5 i.1 i.2.1 i.2.2=_) (fun i=>i.1) (fun i=>[(2,fEq (ptr b1)),(5,fI y2),(6,fSl tI i.2.1),(7,fSl tI y3),(8,fI x5),(9,fEq (ptr b2)),(10,fI i.2.2)]) (fun i=>[aA b1 26 [fSl aD a0.AF,fSl aN a0.AD,fSl aB a0.AE,fI a0.AG],aA b2 65 [fI y5.Op,fI y5.N,fSl aO y5.AS,fSl tI y5.AN]]) (AA,x7,0) H ?_
 clear H;rintro⟨k2,x10,x11⟩ H
 replace H:jK AA y2 y5 k2 x10 x11=_:=H
 try dsimp only
 obtain _ | k2:=k2
 rw [jK]at H;cases H
 rw [jK]at H
 refine aI ?_
 revert H;refine I7 (fun c8 H=>?_) fun c8 H=>?_
 refine Z3 ?_
 refine aI ?_
 revert H;refine B6 fun y9 h9 H=>?_
 revert H;refine B3 fun y10 h10 H=>?_
 refine Tc (aIu _ _ _ _ _ h10) ?_
 revert H;refine B6 fun z1 h11 H=>?_
 refine Z3 ?_
 exact Tm ((k2,y10,z1)) ⟨H,ls⟩
 refine Z7 ?_
 refine aE [0] (by decide) ?_
 exact Tm (x10) (ij H)
 exact fk
 kernel_rfl
 clear H;intro x6 hi;subst o2;have H:=Hr2;clear Hr2;try dsimp only at H
 try dsimp only
 revert H;refine B2 fun z2 h12 H=>?_
 refine Z3 ?_
 exact Tm ((k1,x6,z2)) ⟨H,ls⟩
 refine Z6 ?_
 exact Tm (x4) (ij H)
 clear H;intro x1 hi;subst o1;have H:=Hr1;clear Hr1;try dsimp only at H
 try dsimp only
 refine Z5 ?_
 cases H
 refine aE [] (by decide) ?_
 exact To
def oJ (a0:List AM) (x5:Int):Nat->Int->(List Af)->Option (List Af)
| 0,_,_=>none
| k+1,x10,x11=>
 (idx a0 x5).bind fun y3=>
 if x10<(y3.AL.length:Int)then
  (idx a0 x5).bind fun y4=>
  (idx y4.AL x10).bind fun y5=>
  (cQ ([]++y5.AU)).bind fun z3=>
  (cQ (x11++[(⟨y5.At,z3,y5.AQ⟩:Af)])).bind fun z4=>
  (chk (x10+1)).bind fun z5=>
  oJ a0 x5 k z5 z4
 else
  some x11
def oN (AA:Nat) (a0:List AM):Nat->(List AM)->Int->Option (List AM)
| 0,_,_=>none
| k+1,x4,x5=>
 if x5<(a0.length:Int)then
  ((idx a0 x5).bind fun y1=>
  (cQ ([]++y1.AK)).bind fun z1=>
  (idx a0 x5).bind fun y2=>
  (cQ ([]++y2.AO)).bind fun z2=>
  (oJ a0 x5 AA 0 []).bind fun x7=>
  (cQ (x4++[(⟨z1,z2,x7⟩:AM)])).bind fun z6=>
  some z6).bind fun x6=>
  (chk (x5+1)).bind fun z7=>
  oN AA a0 k x6 z7
 else
  some x4
def xV (AA:Nat) (a0:List AM):Option (List AM):=
 (oN AA a0 AA [] 0).bind fun x1=>
 some x1
theorem aIs (AA:Nat)  (a0:List AM) (r:List AM) (H:xV AA a0=some r):FnS Tryz.prog 35 [fSl aB a0] [] (fSl aB r) (fun _=>[]):=by
 unfold xV at H
 refine bD Tryz.func35 rfl Tryz.ntmps35 rfl (fun β=>?_)
 refine Z6 ?_
 revert H;refine bs fun o1 H Hr1=>?_
 refine aP (ι:=List AM × Value) (fun i=>o1=i.1) (fun i=>[(3,fEq i.2)]) (fun i=>[aC i.2 77 aB i.1]) ?_ ?_
 refine Z4 ?_
 refine eZ aB 77 ?_
 refine kG (ι:=Nat × List AM × Int × Value) (fun i=>oN AA a0 i.1 i.2.1 i.2.2.1=_) (fun i=>i.1) (fun i=>[(0,fSl aB a0),(3,fEq i.2.2.2),(4,fI i.2.2.1)]) (fun i=>[aC i.2.2.2 77 aB i.2.1]) (AA,[],0,(.slice none 0 0)) H (Sc (Sc (Sc cG.nil))) rfl ?_
 clear H;rintro⟨k1,x4,x5,v3⟩ H
 replace H:oN AA a0 k1 x4 x5=_:=H
 try dsimp only
 obtain _ | k1:=k1
 rw [oN]at H;cases H
 rw [oN]at H
 refine aK 0 rfl (fun hc_v3=>?_)
 refine aI ?_
 refine Z6 ?_
 revert H;refine is (fun c1 H=>?_) fun c1 H=>?_
 refine cO hh c1 ?_
 refine Z2 ?_
 revert H;refine bs fun o2 H Hr2=>?_
 refine aP (ι:=List AM × Value) (fun i=>o2=i.1) (fun i=>[(0,fSl aB a0),(4,fI x5),(3,fEq i.2)]) (fun i=>[aC i.2 77 aB i.1]) ?_ ?_
 refine Z1 ?_
 refine aI ?_
 revert H;refine bs fun y1 h1 H=>?_
 revert H;refine bs fun z1 h2 H=>?_
 revert H;refine bs fun y2 h3 H=>?_
 revert H;refine bs fun z2 h4 H=>?_
 apply bJ (ods:=[_,_,_,_,_,_,_,_,_,_,_,_,_,_,_]) 15 1 2 bI rfl rfl rfl
 refine ND ?_
 refine M2 ?_
 intros
 refine My (bW rfl hh hh (el rfl) h1) fun _=>?_
 refine M2 ?_
 intros
 refine aBc (od:=odC [] true (fSl aS z1) []) rfl (fun _=>rfl) a1Z rfl rfl (has rfl) (has rfl) (et rfl) rfl h2 (fun _=>?_)
 refine M2 ?_
 intros
 refine My (bW rfl hh hh (el rfl) h3) fun _=>?_
 refine M2 ?_
 intros
 refine aBc (od:=odC [] true (fSl aV z2) []) rfl (fun _=>rfl) a1Z rfl rfl (has rfl) (has rfl) (et rfl) rfl h4 (fun _=>?_)
 refine My (gQ (ψs:=[fSl aS z1,fSl aV z2,fEq (.slice none 0 0)]) rfl aFC rfl (bS.cons (has rfl) (cF (aT)) (bS.cons (has rfl) (cF (aT)) bS.nil)) rfl) fun _=>?_
 refine Mn 1 (fun b1=>ptr b1) (fun b1=>aA b1 77 [fEq (.slice none 0 0),fEq (.slice none 0 0),fEq (.slice none 0 0)]) rfl (bP rfl qL rfl) (fun b1 u1=>?_)
 refine nZ (od:=od1 13 [1] true (fun b1 _=>dZ) (fun b1 _=>[aA b1 77 [fSl aS z1,fSl aV z2,fEq (.slice none 0 0)]])) (p:=1) (φs':=[fSl aS z1,fSl aV z2,fEq (.slice none 0 0)]) rfl (fun _=>rfl) (fun _=>rfl) a1Z rfl rfl rfl (has rfl) (has rfl) (aG (aT) (aG (aT) (aG (aH a1Z) bH))) (sz rfl) rfl rfl rfl (fun _=>?_)
 refine Z2 ?_
 revert H;refine bs fun o3 H Hr3=>?_
 refine aP (ι:=List Af × Value) (fun i=>o3=i.1) (fun i=>[(0,fSl aB a0),(3,fEq v3),(4,fI x5),(5,fEq (ptr b1))]) (fun i=>[aA b1 77 [fSl aS z1,fSl aV z2,fEq i.2],aC v3 77 aB x4,aC i.2 81 aU i.1]) ?_ ?_
 refine Z4 ?_
 refine eZ aU 81 ?_
 refine aE [2,1,0] (by decide) ?_
 refine kG (ι:=Nat × Int × List Af × Value) (fun i=>oJ a0 x5 i.1 i.2.1 i.2.2.1=_) (fun i=>i.1) (fun i=>[(0,fSl aB a0),(3,fEq v3),(4,fI x5),(5,fEq (ptr b1)),(6,fI i.2.1)]) (fun i=>[aA b1 77 [fSl aS z1,fSl aV z2,fEq i.2.2.2],aC v3 77 aB x4,aC i.2.2.2 81 aU i.2.2.1]) (AA,0,[],(.slice none 0 0)) H (Sc (Sc (Sc (Sc (Sc cG.nil))))) rfl ?_
 clear H;rintro⟨k2,x10,x11,v7⟩ H
 replace H:oJ a0 x5 k2 x10 x11=_:=H
 try dsimp only
 obtain _ | k2:=k2
 rw [oJ]at H;cases H
 rw [oJ]at H
 refine aK 2 rfl (fun hc_v7=>?_)
 refine aI ?_
 refine Z4 ?_
 revert H;refine bs fun y3 h5 H=>?_
 refine Yy (bW rfl hh hh (el rfl) h5) ?_
 refine Z5 ?_
 revert H;refine is (fun c2 H=>?_) fun c2 H=>?_
 refine cO hh c2 ?_
 refine Z2 ?_
 refine aI ?_
 refine Z4 ?_
 revert H;refine bs fun y4 h6 H=>?_
 refine Yy (bW rfl hh hh (el rfl) h6) ?_
 refine Z3 ?_
 revert H;refine bs fun y5 h7 H=>?_
 refine Yy (bW rfl hh hh (el rfl) h7) ?_
 refine Z1 ?_
 refine pF a1Z rfl rfl (bP rfl rE rfl) (fun b2=>?_)
 refine cT (φs':=[fI y5.At,fSl tI y5.AU,fI y5.AQ]) a1Z rfl rfl (has rfl) (has rfl) (aG (aH a1Z) (aG (aT) (aG (aH a1Z) bH))) (sz rfl) rfl rfl rfl ?_
 refine Z4 ?_
 refine eZ tI 3 ?_
 revert H;refine bs fun z3 h8 H=>?_
 refine gU (ys:=y5.AU) a1Z rfl rfl rfl (has rfl) (has rfl) (et rfl) rfl h8 (fun v8=>?_)
 refine aK 0 rfl (fun hc_v8=>?_)
 refine Z1 ?_
 refine cL ?_
 refine bX (φs':=[fI y5.At,fEq v8,fI y5.AQ]) a1Z rfl rfl (has rfl) (has rfl) (aH hc_v8) (sz rfl) rfl rfl ?_
 refine Z5 ?_
 refine cL ?_
 refine cB (φ:=fSl tI z3) (v:=v8) [47] cZ fz ?_
 refine eV (φs':=[fI y5.At,fSl tI z3,fI y5.AQ]) (i:=1) rfl rfl ?_
 refine oS 51 (ψ:=eE [fI y5.At,fEq v8,fI y5.AQ]) rfl (mZ (i:=1) (φs:=[fI y5.At,fEq v8,fI y5.AQ]) (φs':=[fI y5.At,fSl tI z3,fI y5.AQ]) rfl rfl) ?_
 refine bZ ?_
 refine pF a1Z rfl rfl (eJ (t:=aU) (xs:=[(⟨y5.At,z3,y5.AQ⟩:Af)]) rfl (et rfl) (bM.cons rfl (has rfl) bO bM.nil) rfl rfl rfl) (fun b3=>?_)
 generalize (Value.slice (some ⟨b3,0,none⟩) _ _)=v9
 refine aK 0 rfl (fun hc_v9=>?_)
 revert H;refine bs fun z4 h9 H=>?_
 refine aY ?_
 refine cL ?_
 refine gO a1Z rfl rfl rfl (has rfl) (has rfl) (et rfl) rfl h9 (fun v10=>?_)
 refine aK 0 rfl (fun hc_v10=>?_)
 refine Z1 ?_
 refine cW ?_
 refine bX (φs':=[fSl aS z1,fSl aV z2,fEq v10]) a1Z rfl rfl (has rfl) (has rfl) (aH hc_v10) (sz rfl) rfl rfl ?_
 refine Z5 ?_
 revert H;refine bs fun z5 h10 H=>?_
 refine Yy (dO rfl hh hh h10) ?_
 refine Z2 ?_
 refine aE [0,3,1] (by decide) ?_
 exact eC ((k2,z5,z4,v10)) ⟨H,a1F _⟩ (Sc (Sc (Sc (Sc (Sc cG.nil))))) rfl
 refine cN hh c2 ?_
 refine Z5 ?_
 exact eC ((x11,v7)) (a1O H).symm (Sc (Sc (Sc (Sc cG.nil)))) rfl
 clear H;intro i hi;obtain⟨x7,v5⟩:=i;subst o3;have H:=Hr3;clear Hr3;try dsimp only at H
 try dsimp only
 refine aK 2 rfl (fun hc_v5=>?_)
 refine Z3 ?_
 refine cW ?_
 refine cB (φ:=fSl aU x7) (v:=v5) [] cZ (fun _ h=>nomatch h) ?_
 refine eV (φs':=[fSl aS z1,fSl aV z2,fSl aU x7]) (i:=2) rfl rfl ?_
 refine oS 56 (ψ:=eE [fSl aS z1,fSl aV z2,fEq v5]) rfl (mZ (i:=2) (φs:=[fSl aS z1,fSl aV z2,fEq v5]) (φs':=[fSl aS z1,fSl aV z2,fSl aU x7]) rfl rfl) ?_
 refine bZ ?_
 refine pF a1Z rfl rfl (eJ (t:=aB) (xs:=[(⟨z1,z2,x7⟩:AM)]) rfl (et rfl) (bM.cons rfl (has rfl) bO bM.nil) rfl rfl rfl) (fun b4=>?_)
 generalize (Value.slice (some ⟨b4,0,none⟩) _ _)=v11
 refine aK 0 rfl (fun hc_v11=>?_)
 revert H;refine bs fun z6 h11 H=>?_
 refine cW ?_
 refine cL ?_
 refine gO a1Z rfl rfl rfl (has rfl) (has rfl) (et rfl) rfl h11 (fun v12=>?_)
 refine aK 0 rfl (fun hc_v12=>?_)
 refine Z4 ?_
 refine aE [0] (by decide) ?_
 exact eC ((z6,v12)) (a1O H).symm (Sc (Sc (Sc cG.nil))) rfl
 exact fk
 kernel_rfl
 clear H;intro i hi;obtain⟨x6,v4⟩:=i;subst o2;have H:=Hr2;clear Hr2;try dsimp only at H
 try dsimp only
 refine aK 0 rfl (fun hc_v4=>?_)
 refine Z2 ?_
 revert H;refine bs fun z7 h12 H=>?_
 refine Yy (dO rfl hh hh h12) ?_
 refine Z2 ?_
 exact eC ((k1,x6,z7,v4)) ⟨H,a1F _⟩ (Sc (Sc (Sc cG.nil))) rfl
 refine cN hh c1 ?_
 refine Z5 ?_
 exact eC ((x4,v3)) (a1O H).symm (Sc cG.nil) rfl
 clear H;intro i hi;obtain⟨x1,v1⟩:=i;subst o1;have H:=Hr1;clear Hr1;try dsimp only at H
 try dsimp only
 refine aK 0 rfl (fun hc_v1=>?_)
 refine Z5 ?_
 refine cB (φ:=fSl aB x1) (v:=v1) [3,59,2] cZ fz ?_
 refine bZ ?_
 cases H
 exact fG rfl (cC rfl) rfl
open Go.SX Go.SW Go.Dt
def oW (AA:Nat) (a0:AI) (y6:AM):Nat->(List Int)->Int->Option (List Int)
| 0,_,_=>none
| k+1,x4,x5=>
 if x5<(y6.AL.length:Int)then
  (idx y6.AL x5).bind fun y7=>
  (iP AA (⟨a0.AF,a0.AD,a0.AE,a0.AG⟩:AI) y7.AQ).bind fun y8=>
  (cQ (x4++y8)).bind fun z1=>
  (chk (x5+1)).bind fun z2=>
  oW AA a0 y6 k z1 z2
 else
  some x4
def pM (AA:Nat) (a0:AI) (y6:AM):Nat->(List Int)->Int->Option (List Int)
| 0,_,_=>none
| k+1,x9,x10=>
 if x10<(y6.AO.length:Int)then
  (idx y6.AO x10).bind fun y9=>
  (iP AA (⟨a0.AF,a0.AD,a0.AE,a0.AG⟩:AI) y9.AQ).bind fun y10=>
  (cQ (x9++y10)).bind fun z3=>
  (chk (x10+1)).bind fun z4=>
  pM AA a0 y6 k z3 z4
 else
  some x9
def mM (y4:Int) (x6:List Int):Nat->(List Bool)->Int->Option (List Bool)
| 0,_,_=>none
| k+1,x14,x15=>
 if x15<(x6.length:Int)then
  ((idx x6 x15).bind fun y11=>
  if y11<y4 then
   (idx x6 x15).bind fun y12=>
   (idx x14 y12).bind fun y13=>
   some (x14.set y12.toNat true)
  else
   some x14).bind fun x16=>
  (chk (x15+1)).bind fun z5=>
  mM y4 x6 k x16 z5
 else
  some x14
def pD (y4:Int) (x11:List Bool):Nat->(List Int)->Int->Option (List Int)
| 0,_,_=>none
| k+1,x20,x21=>
 if x21<y4 then
  ((idx x11 x21).bind fun y14=>
  bif y14 then
   (cQ (x20++[x21])).bind fun z6=>
   some z6
  else
   some x20).bind fun x22=>
  (chk (x21+1)).bind fun z7=>
  pD y4 x11 k x22 z7
 else
  some x20
def iV (AA:Nat) (a0:AI) (a1:Int):Option (List Int):=
 (idx a0.AD a1).bind fun y1=>
 if y1.Op≠4 then
  (iP AA (⟨a0.AF,a0.AD,a0.AE,a0.AG⟩:AI) a1).bind fun y2=>
  some y2
 else
  (uB AA (⟨a0.AF,a0.AD,a0.AE,a0.AG⟩:AI)).bind fun y3=>
  (idx y3 a1).bind fun y4=>
  (mk false y4).bind fun y5=>
  (idx a0.AE y1.N).bind fun y6=>
  (oW AA a0 y6 AA [] 0).bind fun x1=>
  (pM AA a0 y6 AA x1 0).bind fun x6=>
  (mM y4 x6 AA y5 0).bind fun x11=>
  (pD y4 x11 AA [] 0).bind fun x17=>
  some x17
theorem aGe (AA:Nat)  (a0:AI) (a1:Int) (r:List Int) (H:iV AA a0 a1=some r):FnS Tryz.prog 48 [fSt cK a0,fI a1] [] (fSl tI r) (fun _=>[]):=by
 unfold iV at H
 refine bD Tryz.func48 rfl Tryz.ntmps48 rfl (fun β=>?_)
 refine Z1 ?_
 refine Tn (bR rfl hh bO) fun b1=>?_
 revert H;refine B6 fun y1 h1 H=>?_
 refine Z2 ?_
 refine Tn (bP rfl mG rfl) fun b2=>?_
 refine cT (φs':=[fI y1.Op,fI y1.N,fSl aO y1.AS,fSl tI y1.AN]) a1Z rfl rfl (has rfl) (has rfl) (aG (aH a1Z) (aG (aH a1Z) (aG (aT) (aG (aT) bH)))) (sz rfl) rfl rfl rfl ?_
 refine Z1 ?_
 refine aI ?_
 revert H;refine I5 (fun c1 H=>?_) fun c1 H=>?_
 revert H;refine B4 fun y2 h2 H=>?_
 refine Tc (aBi _ _ _ _ h2) ?_
 refine Z3 ?_
 cases H
 refine aE [] (by decide) ?_
 exact To
 revert H;refine B5 fun y3 h3 H=>?_
 refine Tc (aFo _ _ _ h3) ?_
 revert H;refine B1 fun y4 h4 H=>?_
 revert H;refine B6 fun y5 h5 H=>?_
 refine Tn (qN (t:=bK) (z:=false) rfl hh (et rfl) rfl aAK rfl h5) fun b3=>?_
 generalize (Value.slice (some ⟨b3,0,none⟩) _ _)=v1
 refine aK 0 rfl (fun hc_v1=>?_)
 revert H;refine B7 fun y6 h6 H=>?_
 refine Z2 ?_
 refine Tn (bP rfl qL rfl) fun b4=>?_
 refine cT (φs':=[fSl aS y6.AK,fSl aV y6.AO,fSl aU y6.AL]) a1Z rfl rfl (has rfl) (has rfl) (aG (aT) (aG (aT) (aG (aT) bH))) (sz rfl) rfl rfl rfl ?_
 revert H;refine B4 fun o1 H Hr1=>?_
 refine aP (ι:=List Int × Value) (fun i=>o1=i.1) (fun i=>[(2,fEq (ptr b1)),(6,fI y4),(7,fEq v1),(8,fEq (ptr b4)),(9,fEq i.2)]) (fun i=>[aA b4 77 [fSl aS y6.AK,fSl aV y6.AO,fSl aU y6.AL],aA b2 65 [fI y1.Op,fI y1.N,fSl aO y1.AS,fSl tI y1.AN],aA b1 26 [fSl aD a0.AF,fSl aN a0.AD,fSl aB a0.AE,fI a0.AG],aC v1 4 bK y5,aC i.2 3 tI i.1]) ?_ ?_
 refine Z4 ?_
 refine eZ tI 3 ?_
 refine aE [1,3,4,2,0] (by decide) ?_
 refine Tl (ι:=Nat × List Int × Int × Value) (fun i=>oW AA a0 y6 i.1 i.2.1 i.2.2.1=_) (fun i=>i.1) (fun i=>[(2,fEq (ptr b1)),(6,fI y4),(7,fEq v1),(8,fEq (ptr b4)),(9,fEq i.2.2.2),(10,fI i.2.2.1)]) (fun i=>[aA b4 77 [fSl aS y6.AK,fSl aV y6.AO,fSl aU y6.AL],aA b2 65 [fI y1.Op,fI y1.N,fSl aO y1.AS,fSl tI y1.AN],aA b1 26 [fSl aD a0.AF,fSl aN a0.AD,fSl aB a0.AE,fI a0.AG],aC v1 4 bK y5,aC i.2.2.2 3 tI i.2.1]) (AA,[],0,(.slice none 0 0)) H ?_
 clear H;rintro⟨k1,x4,x5,v4⟩ H
 replace H:oW AA a0 y6 k1 x4 x5=_:=H
 try dsimp only
 obtain _ | k1:=k1
 rw [oW]at H;cases H
 rw [oW]at H
 refine aK 4 rfl (fun hc_v4=>?_)
 refine aI ?_
 revert H;refine I7 (fun c2 H=>?_) fun c2 H=>?_
 refine Z3 ?_
 refine aI ?_
 revert H;refine B1 fun y7 h7 H=>?_
 revert H;refine bs fun y8 h8 H=>?_
 apply bJ (ods:=[_,_,_,_,_,_,_,_,_]) 9 0 5 bI rfl rfl rfl
 refine ND ?_
 refine M8 ?_
 intros
 refine Nc (aBi _ _ _ _ h8) fun _=>?_
 revert H;refine B1 fun z1 h9 H=>?_
 refine aY ?_
 refine gU (ys:=y8) a1Z rfl rfl rfl (has rfl) (has rfl) (et rfl) rfl h9 (fun v5=>?_)
 refine aK 0 rfl (fun hc_v5=>?_)
 revert H;refine B6 fun z2 h10 H=>?_
 refine Z3 ?_
 refine aE [1,2,3,4,0] (by decide) ?_
 exact Tm ((k1,z1,z2,v5)) ⟨H,ls⟩
 exact fk
 kernel_rfl
 refine Z6 ?_
 exact Tm ((x4,v4)) (ij H)
 clear H;intro i hi;obtain⟨x1,v2⟩:=i;subst o1;have H:=Hr1;clear Hr1;try dsimp only at H
 try dsimp only
 refine aK 4 rfl (fun hc_v2=>?_)
 revert H;refine bs fun o2 H Hr2=>?_
 refine aP (ι:=List Int × Value) (fun i=>o2=i.1) (fun i=>[(6,fI y4),(7,fEq v1),(9,fEq i.2)]) (fun i=>[aA b4 77 [fSl aS y6.AK,fSl aV y6.AO,fSl aU y6.AL],aA b2 65 [fI y1.Op,fI y1.N,fSl aO y1.AS,fSl tI y1.AN],aA b1 26 [fSl aD a0.AF,fSl aN a0.AD,fSl aB a0.AE,fI a0.AG],aC v1 4 bK y5,aC i.2 3 tI i.1]) ?_ ?_
 refine Z4 ?_
 refine Tl (ι:=Nat × List Int × Int × Value) (fun i=>pM AA a0 y6 i.1 i.2.1 i.2.2.1=_) (fun i=>i.1) (fun i=>[(2,fEq (ptr b1)),(6,fI y4),(7,fEq v1),(8,fEq (ptr b4)),(9,fEq i.2.2.2),(11,fI i.2.2.1)]) (fun i=>[aA b4 77 [fSl aS y6.AK,fSl aV y6.AO,fSl aU y6.AL],aA b2 65 [fI y1.Op,fI y1.N,fSl aO y1.AS,fSl tI y1.AN],aA b1 26 [fSl aD a0.AF,fSl aN a0.AD,fSl aB a0.AE,fI a0.AG],aC v1 4 bK y5,aC i.2.2.2 3 tI i.2.1]) (AA,x1,0,v2) H ?_
 clear H;rintro⟨k2,x9,x10,v8⟩ H
 replace H:pM AA a0 y6 k2 x9 x10=_:=H
 try dsimp only
 obtain _ | k2:=k2
 rw [pM]at H;cases H
 rw [pM]at H
 refine aK 4 rfl (fun hc_v8=>?_)
 refine aI ?_
 revert H;refine I7 (fun c3 H=>?_) fun c3 H=>?_
 refine Z3 ?_
 refine aI ?_
 revert H;refine B1 fun y9 h11 H=>?_
 revert H;refine bs fun y10 h12 H=>?_
 apply bJ (ods:=[_,_,_,_,_,_,_,_,_]) 9 0 5 bI rfl rfl rfl
 refine ND ?_
 refine M8 ?_
 intros
 refine Nc (aBi _ _ _ _ h12) fun _=>?_
 revert H;refine B1 fun z3 h13 H=>?_
 refine aY ?_
 refine gU (ys:=y10) a1Z rfl rfl rfl (has rfl) (has rfl) (et rfl) rfl h13 (fun v9=>?_)
 refine aK 0 rfl (fun hc_v9=>?_)
 revert H;refine B6 fun z4 h14 H=>?_
 refine Z3 ?_
 refine aE [1,2,3,4,0] (by decide) ?_
 exact Tm ((k2,z3,z4,v9)) ⟨H,ls⟩
 exact fk
 kernel_rfl
 refine Z6 ?_
 exact Tm ((x9,v8)) (ij H)
 clear H;intro i hi;obtain⟨x6,v6⟩:=i;subst o2;have H:=Hr2;clear Hr2;try dsimp only at H
 try dsimp only
 refine aK 4 rfl (fun hc_v6=>?_)
 revert H;refine bs fun o3 H Hr3=>?_
 refine aP (ι:=List Bool) (fun i=>o3=i) (fun i=>[(6,fI y4),(7,fEq v1)]) (fun i=>[aA b4 77 [fSl aS y6.AK,fSl aV y6.AO,fSl aU y6.AL],aA b2 65 [fI y1.Op,fI y1.N,fSl aO y1.AS,fSl tI y1.AN],aA b1 26 [fSl aD a0.AF,fSl aN a0.AD,fSl aB a0.AE,fI a0.AG],aC v1 4 bK i]) ?_ ?_
 refine Z4 ?_
 refine Tl (ι:=Nat × List Bool × Int) (fun i=>mM y4 x6 i.1 i.2.1 i.2.2=_) (fun i=>i.1) (fun i=>[(6,fI y4),(7,fEq v1),(9,fEq v6),(12,fI i.2.2)]) (fun i=>[aA b4 77 [fSl aS y6.AK,fSl aV y6.AO,fSl aU y6.AL],aA b2 65 [fI y1.Op,fI y1.N,fSl aO y1.AS,fSl tI y1.AN],aA b1 26 [fSl aD a0.AF,fSl aN a0.AD,fSl aB a0.AE,fI a0.AG],aC v1 4 bK i.2.1,aC v6 3 tI x6]) (AA,y5,0) H ?_
 clear H;rintro⟨k3,x14,x15⟩ H
 replace H:mM y4 x6 k3 x14 x15=_:=H
 try dsimp only
 obtain _ | k3:=k3
 rw [mM]at H;cases H
 rw [mM]at H
 refine aI ?_
 revert H;refine I6 (fun c4 H=>?_) fun c4 H=>?_
 revert H;refine B3 fun o4 H Hr4=>?_
 refine aP (ι:=List Bool) (fun i=>o4=i) (fun i=>[(6,fI y4),(7,fEq v1),(9,fEq v6),(12,fI x15)]) (fun i=>[aA b4 77 [fSl aS y6.AK,fSl aV y6.AO,fSl aU y6.AL],aA b2 65 [fI y1.Op,fI y1.N,fSl aO y1.AS,fSl tI y1.AN],aA b1 26 [fSl aD a0.AF,fSl aN a0.AD,fSl aB a0.AE,fI a0.AG],aC v1 4 bK i,aC v6 3 tI x6]) ?_ ?_
 revert H;refine B4 fun y11 h15 H=>?_
 refine Z1 ?_
 refine Yo 4 rfl (jU rfl rfl hh (sc rfl) (eW h15) rfl) ?_
 revert H;refine I3 (fun c5 H=>?_) fun c5 H=>?_
 revert H;refine B5 fun y12 h16 H=>?_
 refine Z1 ?_
 refine Yo 4 rfl (jU rfl rfl hh (sc rfl) (eW h16) rfl) ?_
 revert H;refine bs fun y13 h17 H=>?_
 refine Z1 ?_
 refine cV ?_
 refine aA2 (z':=true) a1Z rfl rfl rfl (has rfl) (has rfl) (aH a1Z) (sz rfl) (eW h17) rfl rfl ?_
 refine Z3 ?_
 refine aE [1,2,3,0,4] (by decide) ?_
 exact Tm (x14.set y12.toNat true) (ij H)
 refine Z4 ?_
 exact Tm (x14) (ij H)
 clear H;intro x16 hi;subst o4;have H:=Hr4;clear Hr4;try dsimp only at H
 try dsimp only
 revert H;refine B2 fun z5 h18 H=>?_
 refine Z3 ?_
 exact Tm ((k3,x16,z5)) ⟨H,ls⟩
 refine Z6 ?_
 refine aE [0,1,2,3] (by decide) ?_
 exact Tm (x14) (ij H)
 clear H;intro x11 hi;subst o3;have H:=Hr3;clear Hr3;try dsimp only at H
 try dsimp only
 revert H;refine B3 fun o5 H Hr5=>?_
 refine aP (ι:=List Int × Value) (fun i=>o5=i.1) (fun i=>[(13,fEq i.2)]) (fun i=>[aA b4 77 [fSl aS y6.AK,fSl aV y6.AO,fSl aU y6.AL],aA b2 65 [fI y1.Op,fI y1.N,fSl aO y1.AS,fSl tI y1.AN],aA b1 26 [fSl aD a0.AF,fSl aN a0.AD,fSl aB a0.AE,fI a0.AG],aC i.2 3 tI i.1]) ?_ ?_
 refine Z4 ?_
 refine eZ tI 3 ?_
 refine aE [1,2,3,4,0] (by decide) ?_
 refine Tl (ι:=Nat × List Int × Int × Value) (fun i=>pD y4 x11 i.1 i.2.1 i.2.2.1=_) (fun i=>i.1) (fun i=>[(6,fI y4),(7,fEq v1),(13,fEq i.2.2.2),(14,fI i.2.2.1)]) (fun i=>[aA b4 77 [fSl aS y6.AK,fSl aV y6.AO,fSl aU y6.AL],aA b2 65 [fI y1.Op,fI y1.N,fSl aO y1.AS,fSl tI y1.AN],aA b1 26 [fSl aD a0.AF,fSl aN a0.AD,fSl aB a0.AE,fI a0.AG],aC v1 4 bK x11,aC i.2.2.2 3 tI i.2.1]) (AA,[],0,(.slice none 0 0)) H ?_
 clear H;rintro⟨k4,x20,x21,v12⟩ H
 replace H:pD y4 x11 k4 x20 x21=_:=H
 try dsimp only
 obtain _ | k4:=k4
 rw [pD]at H;cases H
 rw [pD]at H
 refine aK 4 rfl (fun hc_v12=>?_)
 refine aI ?_
 revert H;refine I5 (fun c6 H=>?_) fun c6 H=>?_
 revert H;refine B3 fun o6 H Hr6=>?_
 refine aP (ι:=List Int × Value) (fun i=>o6=i.1) (fun i=>[(6,fI y4),(7,fEq v1),(14,fI x21),(13,fEq i.2)]) (fun i=>[aA b4 77 [fSl aS y6.AK,fSl aV y6.AO,fSl aU y6.AL],aA b2 65 [fI y1.Op,fI y1.N,fSl aO y1.AS,fSl tI y1.AN],aA b1 26 [fSl aD a0.AF,fSl aN a0.AD,fSl aB a0.AE,fI a0.AG],aC v1 4 bK x11,aC i.2 3 tI i.1]) ?_ ?_
 revert H;refine B4 fun y14 h19 H=>?_
 refine Z1 ?_
 refine Yo 3 rfl (jU rfl rfl hh (sc rfl) (eW h19) rfl) ?_
 refine Z1 ?_
 revert H;refine cs (fun c7 H=>?_) fun c7 H=>?_
 refine Z4 ?_
 refine Tn (eJ (t:=tI) (xs:=[x21]) rfl (et rfl) (bM.cons rfl (has rfl) (cF (aH a1Z)) bM.nil) rfl rfl rfl) fun b5=>?_
 generalize (Value.slice (some ⟨b5,0,none⟩) _ _)=v14
 refine aK 0 rfl (fun hc_v14=>?_)
 revert H;refine bs fun z6 h20 H=>?_
 refine iJ ?_
 refine cL ?_
 refine gO a1Z rfl rfl rfl (has rfl) (has rfl) (et rfl) rfl h20 (fun v15=>?_)
 refine aK 0 rfl (fun hc_v15=>?_)
 refine Z4 ?_
 refine aE [1,2,3,4,0] (by decide) ?_
 exact Tm ((z6,v15)) (ij H)
 refine Z4 ?_
 exact Tm ((x20,v12)) (ij H)
 clear H;intro i hi;obtain⟨x22,v13⟩:=i;subst o6;have H:=Hr6;clear Hr6;try dsimp only at H
 try dsimp only
 refine aK 4 rfl (fun hc_v13=>?_)
 revert H;refine B2 fun z7 h21 H=>?_
 refine Z3 ?_
 exact Tm ((k4,x22,z7,v13)) ⟨H,ls⟩
 refine Z6 ?_
 refine aE [0,1,2,4] (by decide) ?_
 exact Tm ((x20,v12)) (ij H)
 clear H;intro i hi;obtain⟨x17,v10⟩:=i;subst o5;have H:=Hr5;clear Hr5;try dsimp only at H
 try dsimp only
 refine aK 3 rfl (fun hc_v10=>?_)
 refine Z5 ?_
 refine cV ?_
 refine cB (φ:=fSl tI x17) (v:=v10) [13,104,4] cZ fz ?_
 refine bZ ?_
 cases H
 refine aE [] (by decide) ?_
 exact To
def qS (a0:List Int) (a1:Int):Nat->Int->Option ((Unit) ⊕ (Int))
| 0,_=>none
| k+1,x2=>
 if x2<(a0.length:Int)then
  (idx a0 x2).bind fun y1=>
  if y1=a1 then
   (some x2).bind fun r=>some (Sum.inr r)
  else
   (chk (x2+1)).bind fun z1=>
   qS a0 a1 k z1
 else
  some (Sum.inl ())
def qK (AA:Nat) (a0:List Int) (a1:Int):Option (Int):=
 (qS a0 a1 AA 0).bind fun o=>match o with
 | Sum.inr r=>some r
 | Sum.inl _=>
 some (-1)
theorem aBh (AA:Nat)  (a0:List Int) (a1:Int) (r:Int) (H:qK AA a0 a1=some r):FnS Tryz.prog 65 [fSl tI a0,fI a1] [] (fI r) (fun _=>[]):=by
 unfold qK at H
 refine bD Tryz.func65 rfl Tryz.ntmps65 rfl (fun β=>?_)
 revert H;refine B3 fun o1 H Hr1=>?_
 refine aP (ι:=Unit) (fun i=>o1=Sum.inl ()) (fun i=>[]) (fun i=>[]) ?_ ?_
 refine Z4 ?_
 refine Tl (ι:=Nat × Int) (fun i=>qS a0 a1 i.1 i.2=_) (fun i=>i.1) (fun i=>[(0,fSl tI a0),(1,fI a1),(5,fI i.2)]) (fun i=>[]) (AA,0) H ?_
 clear H;rintro⟨k1,x2⟩ H
 replace H:qS a0 a1 k1 x2=_:=H
 try dsimp only
 obtain _ | k1:=k1
 rw [qS]at H;cases H
 rw [qS]at H
 refine aI ?_
 revert H;refine I6 (fun c1 H=>?_) fun c1 H=>?_
 refine Z3 ?_
 refine aI ?_
 revert H;refine B4 fun y1 h1 H=>?_
 revert H;refine I5 (fun c2 H=>?_) fun c2 H=>?_
 revert H;refine B11 fun r1 H e1=>?_
 cases e1;cases Hr1
 cases H
 exact To
 revert H;refine B6 fun z1 h2 H=>?_
 refine Z3 ?_
 exact Tm ((k1,z1)) ⟨H,ls⟩
 refine Z6 ?_
 exact Tm (()) (ij H)
 clear H;intro i hi;subst o1;have H:=Hr1;clear Hr1;try dsimp only at H
 try dsimp only
 refine Z4 ?_
 cases H
 exact To
def qP (rec_r07_closed:AR->(List Int)->Option (AR)) (a0:AR) (a1:List Int):Nat->(List AR)->Int->Option (List AR)
| 0,_,_=>none
| k+1,x5,x6=>
 if x6<(a0.AN.length:Int)then
  (idx a0.AN x6).bind fun y2=>
  (rec_r07_closed y2 a1).bind fun y3=>
  (cQ (x5++[y3])).bind fun z1=>
  (chk (x6+1)).bind fun z2=>
  qP rec_r07_closed a0 a1 k z1 z2
 else
  some x5
def lN:Nat->AR->(List Int)->Option (AR)
| 0,_,_=>none
| AA+1,a0,a1=>
 (if a0.Op=2 then
  (qK AA a1 a0.N).bind fun y1=>
  some y1
 else
  some a0.N).bind fun x1=>
 (qP (lN AA) a0 a1 AA [] 0).bind fun x2=>
 some (⟨a0.Op,x1,x2⟩:AR)
theorem aHE:∀ (AA:Nat),(∀  (a0:AR) (a1:List Int) (r:AR) (H:lN AA a0 a1=some r),FnS Tryz.prog 64 [fSt aO a0,fSl tI a1] [] (fSt aO r) (fun _=>[])):=by
 intro AA
 induction AA with
 | zero=>exact fun a0 a1 r H=>(by rw [lN]at H;cases H)
 | succ AA ih=>
 have ih_r07_closed:=@ih
 refine ?_
 intro a0 a1 r H
 rw [lN]at H
 refine bD Tryz.func64 rfl Tryz.ntmps64 rfl (fun β=>?_)
 refine Z1 ?_
 refine Tn (bR rfl hh bO) fun b1=>?_
 refine Tn (bP rfl mW rfl) fun b2=>?_
 revert H;refine B1 fun o1 H Hr1=>?_
 refine aP (ι:=Int) (fun i=>o1=i) (fun i=>[(1,fSl tI a1),(2,fEq (ptr b1)),(4,fEq (ptr b2))]) (fun i=>[aA b1 71 [fI a0.Op,fI i,dD a0.AN],aA b2 71 [fI 0,fI 0,fEq (.slice none 0 0)]]) ?_ ?_
 revert H;refine I5 (fun c1 H=>?_) fun c1 H=>?_
 revert H;refine B5 fun y1 h1 H=>?_
 refine Tc (aBh _ _ _ _ h1) ?_
 refine Z1 ?_
 refine cL ?_
 refine bX (φs':=[fI a0.Op,fI y1,dD a0.AN]) a1Z rfl rfl (has rfl) (has rfl) (aH a1Z) (sz rfl) rfl rfl ?_
 refine Z1 ?_
 exact Tm (y1) (ij H)
 refine Z3 ?_
 refine aE [1,0] (by decide) ?_
 exact Tm (a0.N) (ij H)
 clear H;intro x1 hi;subst o1;have H:=Hr1;clear Hr1;try dsimp only at H
 try dsimp only
 revert H;refine B3 fun o2 H Hr2=>?_
 refine aP (ι:=List AR × Value) (fun i=>o2=i.1) (fun i=>[(2,fEq (ptr b1)),(4,fEq (ptr b2)),(5,fEq i.2)]) (fun i=>[aA b1 71 [fI a0.Op,fI x1,dD a0.AN],aA b2 71 [fI 0,fI 0,fEq (.slice none 0 0)],aC i.2 71 aO i.1]) ?_ ?_
 refine Z4 ?_
 refine eZ aO 71 ?_
 refine aE [1,2,0] (by decide) ?_
 refine Tl (ι:=Nat × List AR × Int × Value) (fun i=>qP (lN AA) a0 a1 i.1 i.2.1 i.2.2.1=_) (fun i=>i.1) (fun i=>[(1,fSl tI a1),(2,fEq (ptr b1)),(4,fEq (ptr b2)),(5,fEq i.2.2.2),(6,fI i.2.2.1)]) (fun i=>[aA b1 71 [fI a0.Op,fI x1,dD a0.AN],aA b2 71 [fI 0,fI 0,fEq (.slice none 0 0)],aC i.2.2.2 71 aO i.2.1]) (AA,[],0,(.slice none 0 0)) H ?_
 clear H;rintro⟨k1,x5,x6,v3⟩ H
 replace H:qP (lN AA) a0 a1 k1 x5 x6=_:=H
 try dsimp only
 obtain _ | k1:=k1
 rw [qP]at H;cases H
 rw [qP]at H
 refine aK 2 rfl (fun hc_v3=>?_)
 refine aI ?_
 refine Z3 ?_
 refine Yo 0 rfl (bA rfl hh (sc rfl) rfl (eQ eG)) ?_
 revert H;refine I3 (fun c2 H=>?_) fun c2 H=>?_
 refine Z3 ?_
 refine aI ?_
 refine Z4 ?_
 refine Yo 0 rfl (bA rfl hh (sc rfl) rfl (eQ eG)) ?_
 revert H;refine B1 fun y2 h2 H=>?_
 revert H;refine B3 fun y3 h3 H=>?_
 refine Tc (ih_r07_closed _ _ _ h3) ?_
 refine Tn (eJ (t:=aO) (xs:=[y3]) rfl (et rfl) (bM.cons rfl hh bO bM.nil) rfl rfl rfl) fun b3=>?_
 generalize (Value.slice (some ⟨b3,0,none⟩) _ _)=v4
 refine aK 0 rfl (fun hc_v4=>?_)
 revert H;refine bs fun z1 h4 H=>?_
 refine cV ?_
 refine cL ?_
 refine gO a1Z rfl rfl rfl (has rfl) (has rfl) (et rfl) rfl h4 (fun v5=>?_)
 refine aK 0 rfl (fun hc_v5=>?_)
 revert H;refine B6 fun z2 h5 H=>?_
 refine Z3 ?_
 refine aE [1,2,0] (by decide) ?_
 exact Tm ((k1,z1,z2,v5)) ⟨H,ls⟩
 refine Z6 ?_
 exact Tm ((x5,v3)) (ij H)
 clear H;intro i hi;obtain⟨x2,v1⟩:=i;subst o2;have H:=Hr2;clear Hr2;try dsimp only at H
 try dsimp only
 refine aK 2 rfl (fun hc_v1=>?_)
 refine Z3 ?_
 refine bX (φs':=[fI a0.Op,fI x1,fEq v1]) a1Z rfl rfl (has rfl) (has rfl) (aH hc_v1) (sz rfl) rfl rfl ?_
 refine Z3 ?_
 refine cL ?_
 refine cT (φs':=[fI a0.Op,fI x1,fEq v1]) a1Z rfl rfl (has rfl) (has rfl) (aG (aH a1Z) (aG (aH a1Z) (aG (aH hc_v1) bH))) (sz rfl) rfl rfl rfl ?_
 refine Z2 ?_
 refine cW ?_
 refine cB (φ:=fSl aO x2) (v:=v1) [5,32] cZ fz ?_
 refine cW ?_
 refine cL ?_
 refine eV (φs':=[fI a0.Op,fI x1,fSl aO x2]) (i:=2) rfl rfl ?_
 refine cW ?_
 refine cL ?_
 refine eV (φs':=[fI a0.Op,fI x1,fSl aO x2]) (i:=2) rfl rfl ?_
 refine oS 34 (ψ:=eE [fI a0.Op,fI x1,fEq v1]) rfl (mZ (i:=2) (φs:=[fI a0.Op,fI x1,fEq v1]) (φs':=[fI a0.Op,fI x1,fSl aO x2]) rfl rfl) ?_
 refine bZ ?_
 cases H
 refine aE [0] (by decide) ?_
 exact aFn rfl (ag rfl) rfl (cC rfl) (aBb (aQ.cons Ent.rfl (aQ.cons Ent.rfl (aQ.cons (aFe .rfl) aQ.nil)))) rfl
def qW (AA:Nat) (a0:List Int) (a1:List Int):Nat->(List Int)->Int->Option (List Int)
| 0,_,_=>none
| k+1,x4,x5=>
 if x5<(a1.length:Int)then
  (idx a1 x5).bind fun y1=>
  (qK AA a0 y1).bind fun y2=>
  (cQ (x4++[y2])).bind fun z1=>
  (chk (x5+1)).bind fun z2=>
  qW AA a0 a1 k z1 z2
 else
  some x4
def uN (AA:Nat) (a0:List Int) (a1:List Int):Option (List Int):=
 (qW AA a0 a1 AA [] 0).bind fun x1=>
 some x1
theorem aEW (AA:Nat)  (a0:List Int) (a1:List Int) (r:List Int) (H:uN AA a0 a1=some r):FnS Tryz.prog 66 [fSl tI a0,fSl tI a1] [] (fSl tI r) (fun _=>[]):=by
 unfold uN at H
 refine bD Tryz.func66 rfl Tryz.ntmps66 rfl (fun β=>?_)
 revert H;refine B6 fun o1 H Hr1=>?_
 refine aP (ι:=List Int × Value) (fun i=>o1=i.1) (fun i=>[(5,fEq i.2)]) (fun i=>[aC i.2 3 tI i.1]) ?_ ?_
 refine Z4 ?_
 refine eZ tI 3 ?_
 refine Tl (ι:=Nat × List Int × Int × Value) (fun i=>qW AA a0 a1 i.1 i.2.1 i.2.2.1=_) (fun i=>i.1) (fun i=>[(0,fSl tI a0),(1,fSl tI a1),(5,fEq i.2.2.2),(6,fI i.2.2.1)]) (fun i=>[aC i.2.2.2 3 tI i.2.1]) (AA,[],0,(.slice none 0 0)) H ?_
 clear H;rintro⟨k1,x4,x5,v3⟩ H
 replace H:qW AA a0 a1 k1 x4 x5=_:=H
 try dsimp only
 obtain _ | k1:=k1
 rw [qW]at H;cases H
 rw [qW]at H
 refine aK 0 rfl (fun hc_v3=>?_)
 refine aI ?_
 revert H;refine I6 (fun c1 H=>?_) fun c1 H=>?_
 refine Z3 ?_
 refine aI ?_
 revert H;refine B6 fun y1 h1 H=>?_
 revert H;refine B2 fun y2 h2 H=>?_
 refine Tc (aBh _ _ _ _ h2) ?_
 refine Tn (eJ (t:=tI) (xs:=[y2]) rfl (et rfl) (bM.cons rfl (has rfl) (cF (aH a1Z)) bM.nil) rfl rfl rfl) fun b1=>?_
 generalize (Value.slice (some ⟨b1,0,none⟩) _ _)=v4
 refine aK 0 rfl (fun hc_v4=>?_)
 revert H;refine bs fun z1 h3 H=>?_
 refine gO a1Z rfl rfl rfl (has rfl) (has rfl) (et rfl) rfl h3 (fun v5=>?_)
 refine aK 0 rfl (fun hc_v5=>?_)
 revert H;refine B6 fun z2 h4 H=>?_
 refine Z3 ?_
 exact Tm ((k1,z1,z2,v5)) ⟨H,ls⟩
 refine Z6 ?_
 exact Tm ((x4,v3)) (ij H)
 clear H;intro i hi;obtain⟨x1,v1⟩:=i;subst o1;have H:=Hr1;clear Hr1;try dsimp only at H
 try dsimp only
 refine aK 0 rfl (fun hc_v1=>?_)
 refine Z5 ?_
 refine cB (φ:=fSl tI x1) (v:=v1) [5,22,4] cZ fz ?_
 refine bZ ?_
 cases H
 exact To
def qI (a0:AM) (a1:Af):Nat->Int->Int->Option ((Int) ⊕ (Int))
| 0,_,_=>none
| k+1,x4,x5=>
 if x5<(a1.AU.length:Int)then
  (idx a1.AU x5).bind fun y1=>
  if y1<0 then
   (some (-1)).bind fun r=>some (Sum.inr r)
  else
   if (a0.AK.length:Int)<=y1 then
    (some (-1)).bind fun r=>some (Sum.inr r)
   else
    (idx a0.AK y1).bind fun y2=>
    if y2.Ak<0 then
     (some (-1)).bind fun r=>some (Sum.inr r)
    else
     (idx a0.AK y1).bind fun y3=>
     if 3<y3.Ak then
      (some (-1)).bind fun r=>some (Sum.inr r)
     else
      (idx a0.AK y1).bind fun y4=>
      (chk (x4+y4.Ak)).bind fun z1=>
      (chk (x5+1)).bind fun z2=>
      qI a0 a1 k z1 z2
 else
  some (Sum.inl x4)
def tG (AA:Nat) (a0:AM) (a1:Af):Option (Int):=
 if 3<(a1.AU.length:Int)then
  some (-1)
 else
  (qI a0 a1 AA 0 0).bind fun o=>match o with
  | Sum.inr r=>some r
  | Sum.inl x1=>
  some x1
theorem aI4 (AA:Nat)  (a0:AM) (a1:Af) (r:Int) (H:tG AA a0 a1=some r):FnS Tryz.prog 67 [fSt aB a0,fSt aU a1] [] (fI r) (fun _=>[]):=by
 unfold tG at H
 refine bD Tryz.func67 rfl Tryz.ntmps67 rfl (fun β=>?_)
 refine Z1 ?_
 refine Tn (bR rfl hh bO) fun b1=>?_
 refine Tn (bR rfl hh bO) fun b2=>?_
 refine Z2 ?_
 refine aI ?_
 revert H;refine I6 (fun c1 H=>?_) fun c1 H=>?_
 refine Z5 ?_
 cases H
 refine aE [] (by decide) ?_
 exact To
 revert H;refine B6 fun o1 H Hr1=>?_
 refine aP (ι:=Int) (fun i=>o1=Sum.inl i) (fun i=>[(5,fI i)]) (fun i=>[aA b2 81 [fI a1.At,fSl tI a1.AU,fI a1.AQ],aA b1 77 [fSl aS a0.AK,fSl aV a0.AO,fSl aU a0.AL]]) ?_ ?_
 refine Z4 ?_
 refine Tl (ι:=Nat × Int × Int) (fun i=>qI a0 a1 i.1 i.2.1 i.2.2=_) (fun i=>i.1) (fun i=>[(2,fEq (ptr b1)),(3,fEq (ptr b2)),(5,fI i.2.1),(6,fI i.2.2)]) (fun i=>[aA b2 81 [fI a1.At,fSl tI a1.AU,fI a1.AQ],aA b1 77 [fSl aS a0.AK,fSl aV a0.AO,fSl aU a0.AL]]) (AA,0,0) H ?_
 clear H;rintro⟨k1,x4,x5⟩ H
 replace H:qI a0 a1 k1 x4 x5=_:=H
 try dsimp only
 obtain _ | k1:=k1
 rw [qI]at H;cases H
 rw [qI]at H
 refine aI ?_
 revert H;refine I7 (fun c2 H=>?_) fun c2 H=>?_
 refine Z3 ?_
 refine aI ?_
 revert H;refine B5 fun y1 h1 H=>?_
 refine Z4 ?_
 refine aI ?_
 revert H;refine I4 (fun c3 H=>?_) fun c3 H=>?_
 refine Z12 ?_
 refine Z12 ?_
 revert H;refine B11 fun r1 H e1=>?_
 cases e1;cases Hr1
 cases H
 refine aE [] (by decide) ?_
 exact To
 revert H;refine I7 (fun c4 H=>?_) fun c4 H=>?_
 refine Z12 ?_
 refine Z12 ?_
 revert H;refine B4 fun r2 H e2=>?_
 cases e2;cases Hr1
 cases H
 refine aE [] (by decide) ?_
 exact To
 revert H;refine B3 fun y2 h2 H=>?_
 revert H;refine I6 (fun c5 H=>?_) fun c5 H=>?_
 refine Z12 ?_
 revert H;refine B7 fun r3 H e3=>?_
 cases e3;cases Hr1
 cases H
 refine aE [] (by decide) ?_
 exact To
 revert H;refine B3 fun y3 h3 H=>?_
 revert H;refine I6 (fun c6 H=>?_) fun c6 H=>?_
 revert H;refine B10 fun r4 H e4=>?_
 cases e4;cases Hr1
 cases H
 refine aE [] (by decide) ?_
 exact To
 revert H;refine B8 fun y4 h4 H=>?_
 revert H;refine B3 fun z1 h5 H=>?_
 revert H;refine B7 fun z2 h6 H=>?_
 refine Z3 ?_
 exact Tm ((k1,z1,z2)) ⟨H,ls⟩
 refine Z6 ?_
 exact Tm (x4) (ij H)
 clear H;intro x1 hi;subst o1;have H:=Hr1;clear Hr1;try dsimp only at H
 try dsimp only
 refine Z5 ?_
 cases H
 refine aE [] (by decide) ?_
 exact To
def lG (a1:Int) (a2:Int):Nat->(List Int)->Int->Option (List Int)
| 0,_,_=>none
| k+1,x4,x5=>
 if x5<a2 then
  (chk (a1+x5)).bind fun z2=>
  (cQ (x4++[z2])).bind fun z3=>
  (chk (x5+1)).bind fun z4=>
  lG a1 a2 k z3 z4
 else
  some x4
def qH (AA:Nat) (a0:List Int) (a1:Int) (a2:Int):Option (List Int):=
 (cQ ([]++a0)).bind fun z1=>
 (lG a1 a2 AA z1 0).bind fun x1=>
 some x1
theorem aAD (AA:Nat)  (a0:List Int) (a1:Int) (a2:Int) (r:List Int) (H:qH AA a0 a1 a2=some r):FnS Tryz.prog 68 [fSl tI a0,fI a1,fI a2] [] (fSl tI r) (fun _=>[]):=by
 unfold qH at H
 refine bD Tryz.func68 rfl Tryz.ntmps68 rfl (fun β=>?_)
 refine Z5 ?_
 refine eZ tI 3 ?_
 revert H;refine bs fun z1 h1 H=>?_
 refine gU (ys:=a0) a1Z rfl rfl rfl (has rfl) (has rfl) (et rfl) rfl h1 (fun v1=>?_)
 refine aK 0 rfl (fun hc_v1=>?_)
 revert H;refine B2 fun o1 H Hr1=>?_
 refine aP (ι:=List Int × Value) (fun i=>o1=i.1) (fun i=>[(7,fEq i.2)]) (fun i=>[aC i.2 3 tI i.1]) ?_ ?_
 refine Z4 ?_
 refine Tl (ι:=Nat × List Int × Int × Value) (fun i=>lG a1 a2 i.1 i.2.1 i.2.2.1=_) (fun i=>i.1) (fun i=>[(1,fI a1),(2,fI a2),(7,fEq i.2.2.2),(8,fI i.2.2.1)]) (fun i=>[aC i.2.2.2 3 tI i.2.1]) (AA,z1,0,v1) H ?_
 clear H;rintro⟨k1,x4,x5,v4⟩ H
 replace H:lG a1 a2 k1 x4 x5=_:=H
 try dsimp only
 obtain _ | k1:=k1
 rw [lG]at H;cases H
 rw [lG]at H
 refine aK 0 rfl (fun hc_v4=>?_)
 refine aI ?_
 revert H;refine I5 (fun c1 H=>?_) fun c1 H=>?_
 refine Z3 ?_
 refine aI ?_
 revert H;refine B5 fun z2 h2 H=>?_
 refine Z1 ?_
 refine Tn (eJ (t:=tI) (xs:=[z2]) rfl (et rfl) (bM.cons rfl (has rfl) (cF (aH a1Z)) bM.nil) rfl rfl rfl) fun b1=>?_
 generalize (Value.slice (some ⟨b1,0,none⟩) _ _)=v5
 refine aK 0 rfl (fun hc_v5=>?_)
 revert H;refine bs fun z3 h3 H=>?_
 refine gO a1Z rfl rfl rfl (has rfl) (has rfl) (et rfl) rfl h3 (fun v6=>?_)
 refine aK 0 rfl (fun hc_v6=>?_)
 revert H;refine B6 fun z4 h4 H=>?_
 refine Z3 ?_
 exact Tm ((k1,z3,z4,v6)) ⟨H,ls⟩
 refine Z6 ?_
 exact Tm ((x4,v4)) (ij H)
 clear H;intro i hi;obtain⟨x1,v2⟩:=i;subst o1;have H:=Hr1;clear Hr1;try dsimp only at H
 try dsimp only
 refine aK 0 rfl (fun hc_v2=>?_)
 refine Z5 ?_
 refine cB (φ:=fSl tI x1) (v:=v2) [7,22,6] cZ fz ?_
 refine bZ ?_
 cases H
 exact To
open Go.SX Go.SW Go.Dt
def pR (AA:Nat) (a3:List Int) (y1:AW):Nat->Int->(List AR)->Option (List AR)
| 0,_,_=>none
| k+1,x4,x5=>
 if x4<(y1.AS.length:Int)then
  (idx y1.AS x4).bind fun y2=>
  (lN AA y2 a3).bind fun y3=>
  (cQ (x5++[y3])).bind fun z2=>
  (chk (x4+1)).bind fun z3=>
  pR AA a3 y1 k z3 z2
 else
  some x5
def pG (AA:Nat) (rec_r07_shut:AI->Ad->Int->(List Int)->Int->Option (Ad)) (a0:AI) (a4:Int) (y8:List Int) (y10:AM) (z4:Int):Nat->Int->(List ByteArray)->(List Int)->(List Ae)->(List AM)->Int->Option (List ByteArray × List Int × List Ae × List AM × Int)
| 0,_,_,_,_,_,_=>none
| k+1,x27,x28,x29,x30,x31,x32=>
 if x27<(y10.AL.length:Int)then
  (idx y10.AL x27).bind fun y11=>
  (tG AA (⟨y10.AK,y10.AO,y10.AL⟩:AM) y11).bind fun y12=>
  (idx y10.AL x27).bind fun y13=>
  (qH AA y8 a4 z4).bind fun y14=>
  (chk (a4+z4)).bind fun z5=>
  (qH AA y14 z5 y12).bind fun y15=>
  (chk (a4+z4)).bind fun z6=>
  (chk (z6+y12)).bind fun z7=>
  (rec_r07_shut (⟨a0.AF,a0.AD,a0.AE,a0.AG⟩:AI) (⟨x28,x29,x30,x31,x32⟩:Ad) y13.AQ y15 z7).bind fun y16=>
  (chk (x27+1)).bind fun z8=>
  pG AA rec_r07_shut a0 a4 y8 y10 z4 k z8 y16.AF y16.Ab y16.AD y16.AE y16.AG
 else
  some (x28,x29,x30,x31,x32)
def pP (AA:Nat) (rec_r07_shut:AI->Ad->Int->(List Int)->Int->Option (Ad)) (a0:AI) (a4:Int) (y8:List Int) (y10:AM) (z4:Int):Nat->Int->(List ByteArray)->(List Int)->(List Ae)->(List AM)->Int->Option (List ByteArray × List Int × List Ae × List AM × Int)
| 0,_,_,_,_,_,_=>none
| k+1,x44,x45,x46,x47,x48,x49=>
 if x44<(y10.AO.length:Int)then
  (idx y10.AO x44).bind fun y17=>
  (qH AA y8 a4 z4).bind fun y18=>
  (chk (a4+z4)).bind fun z9=>
  (rec_r07_shut (⟨a0.AF,a0.AD,a0.AE,a0.AG⟩:AI) (⟨x45,x46,x47,x48,x49⟩:Ad) y17.AQ y18 z9).bind fun y19=>
  (chk (x44+1)).bind fun z10=>
  pP AA rec_r07_shut a0 a4 y8 y10 z4 k z10 y19.AF y19.Ab y19.AD y19.AE y19.AG
 else
  some (x45,x46,x47,x48,x49)
def lX (rec_r07_shut:AI->Ad->Int->(List Int)->Int->Option (Ad)) (a0:AI) (y1:AW) (x6:Int) (x7:List Int):Nat->Int->(List ByteArray)->(List Int)->(List Ae)->(List AM)->Int->Option (Ad)
| 0,_,_,_,_,_,_=>none
| k+1,x56,x57,x58,x59,x60,x61=>
 if x56<(y1.AN.length:Int)then
  (idx y1.AN x56).bind fun y22=>
  (rec_r07_shut (⟨a0.AF,a0.AD,a0.AE,a0.AG⟩:AI) (⟨x57,x58,x59,x60,x61⟩:Ad) y22 x7 x6).bind fun y23=>
  (chk (x56+1)).bind fun z12=>
  lX rec_r07_shut a0 y1 x6 x7 k z12 y23.AF y23.Ab y23.AD y23.AE y23.AG
 else
  some (⟨x57,x58,x59,x60,x61⟩:Ad)
def fA:Nat->AI->Ad->Int->(List Int)->Int->Option (Ad)
| 0,_,_,_,_,_=>none
| AA+1,a0,a1,a2,a3,a4=>
 (idx a0.AD a2).bind fun y1=>
 (cQ ([]++y1.AN)).bind fun z1=>
 (pR AA a3 y1 AA 0 []).bind fun x1=>
 (if y1.Op=2 then
  (qK AA a3 y1.N).bind fun y4=>
  some (a4,a3,y4,[],a1.AF,a1.Ab,a1.AD,a1.AE,a1.AG)
 else
  (if y1.Op=6 then
   some (decide (y1.Op=6))
  else
   if y1.Op=8 then
    some (decide (y1.Op=8))
   else
    some (decide (y1.Op=7))).bind fun x15=>
  bif x15 then
   (iV AA (⟨a0.AF,a0.AD,a0.AE,a0.AG⟩:AI) a2).bind fun y5=>
   (uN AA a3 y5).bind fun y6=>
   if y1.Op≠7 then
    (qK AA y5 y1.N).bind fun y7=>
    some (a4,y5,y7,y6,a1.AF,a1.Ab,a1.AD,a1.AE,a1.AG)
   else
    some (a4,y5,y1.N,y6,a1.AF,a1.Ab,a1.AD,a1.AE,a1.AG)
  else
   if y1.Op=4 then
    (iV AA (⟨a0.AF,a0.AD,a0.AE,a0.AG⟩:AI) a2).bind fun y8=>
    (uN AA a3 y8).bind fun y9=>
    (idx a0.AE y1.N).bind fun y10=>
    (chk ((y10.AK.length:Int)+(y10.AO.length:Int))).bind fun z4=>
    (pG AA (fA AA) a0 a4 y8 y10 z4 AA 0 a1.AF a1.Ab a1.AD a1.AE a1.AG).bind fun (x16,x17,x18,x19,x20)=>
    (pP AA (fA AA) a0 a4 y8 y10 z4 AA 0 x16 x17 x18 x19 x20).bind fun (x33,x34,x35,x36,x37)=>
    (qH AA a3 a4 z4).bind fun y20=>
    (chk (a4+z4)).bind fun z11=>
    some (z11,y20,y1.N,y9,x33,x34,x35,x36,x37)
   else
    some (a4,a3,y1.N,[],a1.AF,a1.Ab,a1.AD,a1.AE,a1.AG)).bind fun (x6,x7,x8,x9,x10,x11,x12,x13,x14)=>
 (idx x12 a2).bind fun y21=>
 lX (fA AA) a0 y1 x6 x7 AA 0 x10 x11 (x12.set a2.toNat (⟨y1.Op,x8,x1,z1,x9⟩:Ae)) x13 x14
theorem aIC:∀ (AA:Nat),(∀ (p1:Nat) (a0:AI) (a1:Ad) (a2:Int) (a3:List Int) (a4:Int) (r:Ad) (H:fA AA a0 a1 a2 a3 a4=some r),FnS Tryz.prog 36 [fSt cK a0,fEq (.pointer (some ⟨p1,0,none⟩)),fI a2,fSl tI a3,fI a4] [tE p1 a1] (dK []) (fun _=>[tE p1 r])):=by
 intro AA
 induction AA with
 | zero=>exact fun p1 a0 a1 a2 a3 a4 r H=>(by rw [fA]at H;cases H)
 | succ AA ih=>
 have ih_r07_shut:=@ih
 refine ?_
 intro p1 a0 a1 a2 a3 a4 r H
 rw [fA]at H
 refine bD Tryz.func36 rfl Tryz.ntmps36 rfl (fun β=>?_)
 refine mS (fun v1=>?_)
 refine aK 1 rfl (fun hc_v1=>?_)
 refine Z1 ?_
 refine pF a1Z rfl rfl (bR rfl (has rfl) bO) (fun b1=>?_)
 refine Z5 ?_
 revert H;refine bs fun y1 h1 H=>?_
 refine Yy (bW rfl hh hh (el rfl) h1) ?_
 refine Z1 ?_
 refine pF a1Z rfl rfl (bP rfl mG rfl) (fun b2=>?_)
 refine cT (φs':=[fI y1.Op,fI y1.N,fSl aO y1.AS,fSl tI y1.AN]) a1Z rfl rfl (has rfl) (has rfl) (aG (aH a1Z) (aG (aH a1Z) (aG (aT) (aG (aT) bH)))) (sz rfl) rfl rfl rfl ?_
 refine Z1 ?_
 refine aI ?_
 revert H;refine bs fun z1 h2 H=>?_
 apply bJ (ods:=[_,_,_,_,_,_,_,_,_,_]) 10 1 5 bI rfl rfl rfl
 refine ND ?_
 refine M6 ?_
 intros
 refine aBc (od:=odC [] true (fSl tI z1) []) rfl (fun _=>rfl) a1Z rfl rfl (has rfl) (has rfl) (et rfl) rfl h2 (fun _=>?_)
 refine My (gQ (ψs:=[fI y1.Op,fI y1.N,fEq (.slice none 0 0),fSl tI z1,fEq (.slice none 0 0)]) rfl aD3 rfl (bS.cons (has rfl) (cF (aH a1Z)) (bS.cons (has rfl) (cF (aH a1Z)) (bS.cons (has rfl) (cF (aT)) bS.nil))) rfl) fun _=>?_
 refine Mn 4 (fun b3=>ptr b3) (fun b3=>aA b3 54 [fI 0,fI 0,fEq (.slice none 0 0),fEq (.slice none 0 0),fEq (.slice none 0 0)]) rfl (bP rfl vE rfl) (fun b3 u1=>?_)
 refine nZ (od:=od1 8 [4] true (fun b3 _=>dZ) (fun b3 _=>[aA b3 54 [fI y1.Op,fI y1.N,fEq (.slice none 0 0),fSl tI z1,fEq (.slice none 0 0)]])) (p:=4) (φs':=[fI y1.Op,fI y1.N,fEq (.slice none 0 0),fSl tI z1,fEq (.slice none 0 0)]) rfl (fun _=>rfl) (fun _=>rfl) a1Z rfl rfl rfl (has rfl) (has rfl) (aG (aH a1Z) (aG (aH a1Z) (aG (aH a1Z) (aG (aT) (aG (aH a1Z) bH))))) (sz rfl) rfl rfl rfl (fun _=>?_)
 refine Z2 ?_
 revert H;refine bs fun o1 H Hr1=>?_
 refine aP (ι:=List AR × Value) (fun i=>o1=i.1) (fun i=>[(1,fEq (ptr p1)),(2,fI a2),(3,fSl tI a3),(4,fI a4),(5,fEq (ptr b1)),(10,fEq (ptr b2)),(11,fEq (ptr b3))]) (fun i=>[aA b2 65 [fI y1.Op,fI y1.N,fSl aO y1.AS,fSl tI y1.AN],aA b1 26 [fSl aD a0.AF,fSl aN a0.AD,fSl aB a0.AE,fI a0.AG],aA p1 30 [fSl aD a1.AF,fSl tI a1.Ab,fEq v1,fSl aB a1.AE,fI a1.AG],aA b3 54 [fI y1.Op,fI y1.N,fEq i.2,fSl tI z1,fEq (.slice none 0 0)],aC v1 54 cE a1.AD,aC i.2 71 aO i.1]) ?_ ?_
 refine Z4 ?_
 refine eZ aO 71 ?_
 refine aE [1,2,3,5,4,0] (by decide) ?_
 refine kG (ι:=Nat × Int × List AR × Value) (fun i=>pR AA a3 y1 i.1 i.2.1 i.2.2.1=_) (fun i=>i.1) (fun i=>[(1,fEq (ptr p1)),(2,fI a2),(3,fSl tI a3),(4,fI a4),(5,fEq (ptr b1)),(10,fEq (ptr b2)),(11,fEq (ptr b3)),(12,fI i.2.1)]) (fun i=>[aA b2 65 [fI y1.Op,fI y1.N,fSl aO y1.AS,fSl tI y1.AN],aA b1 26 [fSl aD a0.AF,fSl aN a0.AD,fSl aB a0.AE,fI a0.AG],aA p1 30 [fSl aD a1.AF,fSl tI a1.Ab,fEq v1,fSl aB a1.AE,fI a1.AG],aA b3 54 [fI y1.Op,fI y1.N,fEq i.2.2.2,fSl tI z1,fEq (.slice none 0 0)],aC v1 54 cE a1.AD,aC i.2.2.2 71 aO i.2.2.1]) (AA,0,[],(.slice none 0 0)) H (Sc (Sc (Sc (Sc (Sc (Sc (Sc (Sc cG.nil)))))))) rfl ?_
 clear H;rintro⟨k1,x4,x5,v4⟩ H
 replace H:pR AA a3 y1 k1 x4 x5=_:=H
 try dsimp only
 obtain _ | k1:=k1
 rw [pR]at H;cases H
 rw [pR]at H
 refine aK 5 rfl (fun hc_v4=>?_)
 refine aI ?_
 refine Z7 ?_
 revert H;refine is (fun c1 H=>?_) fun c1 H=>?_
 refine cO hh c1 ?_
 refine Z2 ?_
 refine aI ?_
 refine Z1 ?_
 revert H;refine bs fun y2 h3 H=>?_
 revert H;refine bs fun y3 h4 H=>?_
 apply bJ (ods:=[_,_,_,_,_,_,_,_,_,_]) 10 0 6 bI rfl rfl rfl
 refine ND ?_
 refine M5 ?_
 intros
 refine My (bW rfl hh hh (el rfl) h3) fun _=>?_
 refine M2 ?_
 intros
 refine pQ (od:=odC [] true (fSt aO y3) []) (Φ:=fSt aO y3) rfl (fun _=>rfl) a1Z rfl rfl (has rfl) (aJ.cons (has rfl) (aJ.cons (has rfl) aJ.nil)) rfl (cb rfl) (aHE AA y2 a3 y3 h4) (fun _=>?_)
 refine Mf (φ:=fSl aO [y3]) (eJ (t:=aO) (xs:=[y3]) rfl (et rfl) (bM.cons rfl (has rfl) bO bM.nil) rfl rfl rfl) (fun b=>cZ) fun _=>?_
 refine Z1 ?_
 revert H;refine bs fun z2 h5 H=>?_
 refine iJ ?_
 refine gU (ys:=[y3]) a1Z rfl rfl rfl (has rfl) (has rfl) (et rfl) rfl h5 (fun v6=>?_)
 refine aK 0 rfl (fun hc_v6=>?_)
 refine Z1 ?_
 refine aY ?_
 refine bX (φs':=[fI y1.Op,fI y1.N,fEq v6,fSl tI z1,fEq (.slice none 0 0)]) a1Z rfl rfl (has rfl) (has rfl) (aH hc_v6) (sz rfl) rfl rfl ?_
 refine Z5 ?_
 revert H;refine bs fun z3 h6 H=>?_
 refine Yy (dO rfl hh hh h6) ?_
 refine Z2 ?_
 refine aE [2,3,4,0,5,1] (by decide) ?_
 exact eC ((k1,z3,z2,v6)) ⟨H,a1F _⟩ (Sc (Sc (Sc (Sc (Sc (Sc (Sc (Sc cG.nil)))))))) rfl
 exact fk
 kernel_rfl
 refine cN hh c1 ?_
 refine Z5 ?_
 exact eC ((x5,v4)) (a1O H).symm (Sc (Sc (Sc (Sc (Sc (Sc (Sc cG.nil))))))) rfl
 clear H;intro i hi;obtain⟨x1,v2⟩:=i;subst o1;have H:=Hr1;clear Hr1;try dsimp only at H
 try dsimp only
 refine aK 5 rfl (fun hc_v2=>?_)
 refine Z4 ?_
 revert H;refine bs fun o2 H Hr2=>?_
 refine aP (ι:=Int × List Int × Int × List Int × List ByteArray × List Int × List Ae × List AM × Int × Value) (fun i=>o2=(i.1,i.2.1,i.2.2.1,i.2.2.2.1,i.2.2.2.2.1,i.2.2.2.2.2.1,i.2.2.2.2.2.2.1,i.2.2.2.2.2.2.2.1,i.2.2.2.2.2.2.2.2.1)) (fun i=>[(1,fEq (ptr p1)),(2,fI a2),(4,fI i.1),(5,fEq (ptr b1)),(10,fEq (ptr b2)),(11,fEq (ptr b3)),(13,fSl tI i.2.1)]) (fun i=>[aA b3 54 [fI y1.Op,fI i.2.2.1,fEq v2,fSl tI z1,fSl tI i.2.2.2.1],aA b2 65 [fI y1.Op,fI y1.N,fSl aO y1.AS,fSl tI y1.AN],aA b1 26 [fSl aD a0.AF,fSl aN a0.AD,fSl aB a0.AE,fI a0.AG],aA p1 30 [fSl aD i.2.2.2.2.1,fSl tI i.2.2.2.2.2.1,fEq i.2.2.2.2.2.2.2.2.2,fSl aB i.2.2.2.2.2.2.2.1,fI i.2.2.2.2.2.2.2.2.1],aC v2 71 aO x1,aC i.2.2.2.2.2.2.2.2.2 54 cE i.2.2.2.2.2.2.1]) ?_ ?_
 refine Z9 ?_
 revert H;refine is (fun c2 H=>?_) fun c2 H=>?_
 refine cO hh c2 ?_
 refine Z4 ?_
 revert H;refine bs fun y4 h7 H=>?_
 refine gF a1Z rfl rfl rfl hh (aJ.cons hh (aJ.cons hh aJ.nil)) rfl (cb rfl) (aBh AA a3 y1.N y4 h7) rfl ?_
 refine Z1 ?_
 refine cV ?_
 refine bX (φs':=[fI y1.Op,fI y4,fEq v2,fSl tI z1,fEq (.slice none 0 0)]) a1Z rfl rfl (has rfl) (has rfl) (aH a1Z) (sz rfl) rfl rfl ?_
 refine Z3 ?_
 refine aBp (ψs:=[fI y1.Op,fI y4,fEq v2,fSl tI z1,fSl tI []]) (aQ.cons Ent.rfl (aQ.cons Ent.rfl (aQ.cons Ent.rfl (aQ.cons Ent.rfl (aQ.cons dF aQ.nil))))) ?_
 refine aE [0,1,2,3,5,4] (by decide) ?_
 exact eC ((a4,a3,y4,[],a1.AF,a1.Ab,a1.AD,a1.AE,a1.AG,v1)) (a1O H).symm (Sc (Sc (Sc (Sc (Sc (Sc (Sc cG.nil))))))) rfl
 refine cN hh c2 ?_
 revert H;refine bs fun o3 H Hr3=>?_
 refine aP (ι:=Bool) (fun i=>o3=i) (fun i=>[(1,fEq (ptr p1)),(2,fI a2),(3,fSl tI a3),(4,fI a4),(5,fEq (ptr b1)),(10,fEq (ptr b2)),(11,fEq (ptr b3)),(13,fSl tI a3),(55,fI y1.Op),(63,aM i)]) (fun i=>[aA b2 65 [fI y1.Op,fI y1.N,fSl aO y1.AS,fSl tI y1.AN],aA b1 26 [fSl aD a0.AF,fSl aN a0.AD,fSl aB a0.AE,fI a0.AG],aA p1 30 [fSl aD a1.AF,fSl tI a1.Ab,fEq v1,fSl aB a1.AE,fI a1.AG],aA b3 54 [fI y1.Op,fI y1.N,fEq v2,fSl tI z1,fEq (.slice none 0 0)],aC v1 54 cE a1.AD,aC v2 71 aO x1]) ?_ ?_
 refine Z4 ?_
 revert H;refine is (fun c3 H=>?_) fun c3 H=>?_
 refine cO hh c3 ?_
 refine Z2 ?_
 exact eC (decide (y1.Op=6)) (a1O H).symm (Sc (Sc (Sc (Sc (Sc (Sc (Sc (Sc (Sc (Sc cG.nil)))))))))) rfl
 refine cN hh c3 ?_
 refine Z4 ?_
 revert H;refine is (fun c4 H=>?_) fun c4 H=>?_
 refine cO hh c4 ?_
 refine Z2 ?_
 exact eC (decide (y1.Op=8)) (a1O H).symm (Sc (Sc (Sc (Sc (Sc (Sc (Sc (Sc (Sc (Sc cG.nil)))))))))) rfl
 refine cN hh c4 ?_
 refine Z4 ?_
 exact eC (decide (y1.Op=7)) (a1O H).symm (Sc (Sc (Sc (Sc (Sc (Sc (Sc (Sc (Sc (Sc cG.nil)))))))))) rfl
 clear H;intro x15 hi;subst o3;have H:=Hr3;clear Hr3;try dsimp only at H
 try dsimp only
 revert H;refine cs (fun c5 H=>?_) fun c5 H=>?_
 refine cO hh c5 ?_
 refine Z3 ?_
 revert H;refine bs fun y5 h8 H=>?_
 refine gF a1Z rfl rfl rfl hh (aJ.cons hh (aJ.cons hh aJ.nil)) rfl (cb rfl) (aGe AA (⟨a0.AF,a0.AD,a0.AE,a0.AG⟩:AI) a2 y5 h8) rfl ?_
 refine Z5 ?_
 revert H;refine bs fun y6 h9 H=>?_
 refine gF a1Z rfl rfl rfl hh (aJ.cons hh (aJ.cons hh aJ.nil)) rfl (cb rfl) (aEW AA a3 y5 y6 h9) rfl ?_
 refine Z1 ?_
 refine cV ?_
 refine bX (φs':=[fI y1.Op,fI y1.N,fEq v2,fSl tI z1,fSl tI y6]) a1Z rfl rfl (has rfl) (has rfl) (aT) (sz rfl) rfl rfl ?_
 refine Z6 ?_
 revert H;refine is (fun c6 H=>?_) fun c6 H=>?_
 refine cO hh c6 ?_
 refine Z4 ?_
 revert H;refine bs fun y7 h10 H=>?_
 refine gF a1Z rfl rfl rfl hh (aJ.cons hh (aJ.cons hh aJ.nil)) rfl (cb rfl) (aBh AA y5 y1.N y7 h10) rfl ?_
 refine Z1 ?_
 refine bX (φs':=[fI y1.Op,fI y7,fEq v2,fSl tI z1,fSl tI y6]) a1Z rfl rfl (has rfl) (has rfl) (aH a1Z) (sz rfl) rfl rfl ?_
 refine Z3 ?_
 refine aE [0,1,2,3,5,4] (by decide) ?_
 exact eC ((a4,y5,y7,y6,a1.AF,a1.Ab,a1.AD,a1.AE,a1.AG,v1)) (a1O H).symm (Sc (Sc (Sc (Sc (Sc (Sc (Sc cG.nil))))))) rfl
 refine cN hh c6 ?_
 refine Z3 ?_
 refine aE [0,1,2,3,5,4] (by decide) ?_
 exact eC ((a4,y5,y1.N,y6,a1.AF,a1.Ab,a1.AD,a1.AE,a1.AG,v1)) (a1O H).symm (Sc (Sc (Sc (Sc (Sc (Sc (Sc cG.nil))))))) rfl
 refine cN hh c5 ?_
 refine Z4 ?_
 revert H;refine is (fun c7 H=>?_) fun c7 H=>?_
 refine cO hh c7 ?_
 refine Z3 ?_
 revert H;refine bs fun y8 h11 H=>?_
 refine gF a1Z rfl rfl rfl hh (aJ.cons hh (aJ.cons hh aJ.nil)) rfl (cb rfl) (aGe AA (⟨a0.AF,a0.AD,a0.AE,a0.AG⟩:AI) a2 y8 h11) rfl ?_
 refine Z5 ?_
 revert H;refine bs fun y9 h12 H=>?_
 refine gF a1Z rfl rfl rfl hh (aJ.cons hh (aJ.cons hh aJ.nil)) rfl (cb rfl) (aEW AA a3 y8 y9 h12) rfl ?_
 refine Z1 ?_
 refine cV ?_
 refine bX (φs':=[fI y1.Op,fI y1.N,fEq v2,fSl tI z1,fSl tI y9]) a1Z rfl rfl (has rfl) (has rfl) (aT) (sz rfl) rfl rfl ?_
 refine Z6 ?_
 revert H;refine bs fun y10 h13 H=>?_
 refine Yy (bW rfl hh hh (el rfl) h13) ?_
 refine Z1 ?_
 refine pF a1Z rfl rfl (bP rfl qL rfl) (fun b5=>?_)
 refine cT (φs':=[fSl aS y10.AK,fSl aV y10.AO,fSl aU y10.AL]) a1Z rfl rfl (has rfl) (has rfl) (aG (aT) (aG (aT) (aG (aT) bH))) (sz rfl) rfl rfl rfl ?_
 refine Z8 ?_
 revert H;refine bs fun z4 h14 H=>?_
 refine Yy (dO rfl hh hh h14) ?_
 refine Z2 ?_
 revert H;refine bs fun o4 H Hr4=>?_
 refine aP (ι:=List ByteArray × List Int × List Ae × List AM × Int × Value) (fun i=>o4=(i.1,i.2.1,i.2.2.1,i.2.2.2.1,i.2.2.2.2.1)) (fun i=>[(1,fEq (ptr p1)),(2,fI a2),(3,fSl tI a3),(4,fI a4),(5,fEq (ptr b1)),(10,fEq (ptr b2)),(11,fEq (ptr b3)),(14,fSl tI y8),(15,fEq (ptr b5)),(16,fI z4)]) (fun i=>[aA b5 77 [fSl aS y10.AK,fSl aV y10.AO,fSl aU y10.AL],aA b3 54 [fI y1.Op,fI y1.N,fEq v2,fSl tI z1,fSl tI y9],aA b2 65 [fI y1.Op,fI y1.N,fSl aO y1.AS,fSl tI y1.AN],aA b1 26 [fSl aD a0.AF,fSl aN a0.AD,fSl aB a0.AE,fI a0.AG],aA p1 30 [fSl aD i.1,fSl tI i.2.1,fEq i.2.2.2.2.2,fSl aB i.2.2.2.1,fI i.2.2.2.2.1],aC v2 71 aO x1,aC i.2.2.2.2.2 54 cE i.2.2.1]) ?_ ?_
 refine Z4 ?_
 refine aE [0,1,2,3,4,6,5] (by decide) ?_
 refine kG (ι:=Nat × Int × List ByteArray × List Int × List Ae × List AM × Int × Value) (fun i=>pG AA (fA AA) a0 a4 y8 y10 z4 i.1 i.2.1 i.2.2.1 i.2.2.2.1 i.2.2.2.2.1 i.2.2.2.2.2.1 i.2.2.2.2.2.2.1=_) (fun i=>i.1) (fun i=>[(1,fEq (ptr p1)),(2,fI a2),(3,fSl tI a3),(4,fI a4),(5,fEq (ptr b1)),(10,fEq (ptr b2)),(11,fEq (ptr b3)),(14,fSl tI y8),(15,fEq (ptr b5)),(16,fI z4),(17,fI i.2.1)]) (fun i=>[aA b5 77 [fSl aS y10.AK,fSl aV y10.AO,fSl aU y10.AL],aA b3 54 [fI y1.Op,fI y1.N,fEq v2,fSl tI z1,fSl tI y9],aA b2 65 [fI y1.Op,fI y1.N,fSl aO y1.AS,fSl tI y1.AN],aA b1 26 [fSl aD a0.AF,fSl aN a0.AD,fSl aB a0.AE,fI a0.AG],aA p1 30 [fSl aD i.2.2.1,fSl tI i.2.2.2.1,fEq i.2.2.2.2.2.2.2,fSl aB i.2.2.2.2.2.1,fI i.2.2.2.2.2.2.1],aC v2 71 aO x1,aC i.2.2.2.2.2.2.2 54 cE i.2.2.2.2.1]) (AA,0,a1.AF,a1.Ab,a1.AD,a1.AE,a1.AG,v1) H (Sc (Sc (Sc (Sc (Sc (Sc (Sc (Sc (Sc (Sc (Sc cG.nil))))))))))) rfl ?_
 clear H;rintro⟨k2,x27,x28,x29,x30,x31,x32,v10⟩ H
 replace H:pG AA (fA AA) a0 a4 y8 y10 z4 k2 x27 x28 x29 x30 x31 x32=_:=H
 try dsimp only
 obtain _ | k2:=k2
 rw [pG]at H;cases H
 rw [pG]at H
 refine aK 6 rfl (fun hc_v10=>?_)
 refine aI ?_
 refine Z7 ?_
 revert H;refine is (fun c8 H=>?_) fun c8 H=>?_
 refine cO hh c8 ?_
 refine Z2 ?_
 refine aI ?_
 refine Z1 ?_
 refine aI ?_
 revert H;refine bs fun y11 h15 H=>?_
 revert H;refine bs fun y12 h16 H=>?_
 apply bJ (ods:=[_,_,_,_,_,_,_,_]) 8 0 7 bI rfl rfl rfl
 refine ND ?_
 refine M4 ?_
 intros
 refine My (bW rfl hh hh (el rfl) h15) fun _=>?_
 refine M1 ?_
 intros
 refine pQ (od:=odC [] true (fI y12) []) (Φ:=fI y12) rfl (fun _=>rfl) a1Z rfl rfl (has rfl) (aJ.cons (has rfl) (aJ.cons (has rfl) aJ.nil)) rfl (cb rfl) (aI4 AA (⟨y10.AK,y10.AO,y10.AL⟩:AM) y11 y12 h16) (fun _=>?_)
 refine M1 ?_
 intros
 refine Z2 ?_
 revert H;refine bs fun y13 h17 H=>?_
 revert H;refine bs fun y14 h18 H=>?_
 revert H;refine bs fun z5 h19 H=>?_
 revert H;refine bs fun y15 h20 H=>?_
 revert H;refine bs fun z6 h21 H=>?_
 revert H;refine bs fun z7 h22 H=>?_
 apply bJ (ods:=[_,_,_,_,_,_,_,_,_,_,_,_,_,_,_,_,_,_,_,_,_,_]) 22 0 7 bI rfl rfl rfl
 refine ND ?_
 refine M5 ?_
 intros
 refine My (bW rfl hh hh (el rfl) h17) fun _=>?_
 refine M5 ?_
 intros
 refine pQ (od:=odC [] true (fSl tI y14) []) (Φ:=fSl tI y14) rfl (fun _=>rfl) a1Z rfl rfl (has rfl) (aJ.cons (has rfl) (aJ.cons (has rfl) (aJ.cons (has rfl) aJ.nil))) rfl (cb rfl) (aAD AA y8 a4 z4 y14 h18) (fun _=>?_)
 refine M2 ?_
 intros
 refine My (dO rfl hh hh h19) fun _=>?_
 refine M1 ?_
 intros
 refine pQ (od:=odC [] true (fSl tI y15) []) (Φ:=fSl tI y15) rfl (fun _=>rfl) a1Z rfl rfl (has rfl) (aJ.cons (has rfl) (aJ.cons (has rfl) (aJ.cons (has rfl) aJ.nil))) rfl (cb rfl) (aAD AA y14 z5 y12 y15 h20) (fun _=>?_)
 refine M2 ?_
 intros
 refine My (dO rfl hh hh h21) fun _=>?_
 refine M1 ?_
 intros
 refine My (dO rfl hh hh h22) fun _=>?_
 refine Z1 ?_
 refine mE ?_
 refine iJ ?_
 refine mK (x:=(⟨x28,x29,x30,x31,x32⟩:Ad)) ?_
 revert H;refine bs fun y16 h23 H=>?_
 refine gF a1Z rfl rfl rfl hh (aJ.cons hh (aJ.cons hh (aJ.cons hh (aJ.cons hh (aJ.cons hh aJ.nil))))) rfl (cb rfl) (ih_r07_shut p1 (⟨a0.AF,a0.AD,a0.AE,a0.AG⟩:AI) (⟨x28,x29,x30,x31,x32⟩:Ad) y13.AQ y15 z7 y16 h23) rfl ?_
 refine mS (fun v11=>?_)
 refine aK 1 rfl (fun hc_v11=>?_)
 refine Z5 ?_
 revert H;refine bs fun z8 h24 H=>?_
 refine Yy (dO rfl hh hh h24) ?_
 refine Z2 ?_
 refine aE [2,3,4,5,0,6,1] (by decide) ?_
 exact eC ((k2,z8,y16.AF,y16.Ab,y16.AD,y16.AE,y16.AG,v11)) ⟨H,a1F _⟩ (Sc (Sc (Sc (Sc (Sc (Sc (Sc (Sc (Sc (Sc (Sc cG.nil))))))))))) rfl
 exact fk
 kernel_rfl
 exact fk
 kernel_rfl
 refine cN hh c8 ?_
 refine Z5 ?_
 exact eC ((x28,x29,x30,x31,x32,v10)) (a1O H).symm (Sc (Sc (Sc (Sc (Sc (Sc (Sc (Sc (Sc (Sc cG.nil)))))))))) rfl
 clear H;intro i hi;obtain⟨x16,x17,x18,x19,x20,v8⟩:=i;subst o4;have H:=Hr4;clear Hr4;try dsimp only at H
 try dsimp only
 refine aK 6 rfl (fun hc_v8=>?_)
 revert H;refine bs fun o5 H Hr5=>?_
 refine aP (ι:=List ByteArray × List Int × List Ae × List AM × Int × Value) (fun i=>o5=(i.1,i.2.1,i.2.2.1,i.2.2.2.1,i.2.2.2.2.1)) (fun i=>[(1,fEq (ptr p1)),(2,fI a2),(3,fSl tI a3),(4,fI a4),(5,fEq (ptr b1)),(10,fEq (ptr b2)),(11,fEq (ptr b3)),(16,fI z4)]) (fun i=>[aA b5 77 [fSl aS y10.AK,fSl aV y10.AO,fSl aU y10.AL],aA b3 54 [fI y1.Op,fI y1.N,fEq v2,fSl tI z1,fSl tI y9],aA b2 65 [fI y1.Op,fI y1.N,fSl aO y1.AS,fSl tI y1.AN],aA b1 26 [fSl aD a0.AF,fSl aN a0.AD,fSl aB a0.AE,fI a0.AG],aA p1 30 [fSl aD i.1,fSl tI i.2.1,fEq i.2.2.2.2.2,fSl aB i.2.2.2.1,fI i.2.2.2.2.1],aC v2 71 aO x1,aC i.2.2.2.2.2 54 cE i.2.2.1]) ?_ ?_
 refine Z4 ?_
 refine kG (ι:=Nat × Int × List ByteArray × List Int × List Ae × List AM × Int × Value) (fun i=>pP AA (fA AA) a0 a4 y8 y10 z4 i.1 i.2.1 i.2.2.1 i.2.2.2.1 i.2.2.2.2.1 i.2.2.2.2.2.1 i.2.2.2.2.2.2.1=_) (fun i=>i.1) (fun i=>[(1,fEq (ptr p1)),(2,fI a2),(3,fSl tI a3),(4,fI a4),(5,fEq (ptr b1)),(10,fEq (ptr b2)),(11,fEq (ptr b3)),(14,fSl tI y8),(15,fEq (ptr b5)),(16,fI z4),(19,fI i.2.1)]) (fun i=>[aA b5 77 [fSl aS y10.AK,fSl aV y10.AO,fSl aU y10.AL],aA b3 54 [fI y1.Op,fI y1.N,fEq v2,fSl tI z1,fSl tI y9],aA b2 65 [fI y1.Op,fI y1.N,fSl aO y1.AS,fSl tI y1.AN],aA b1 26 [fSl aD a0.AF,fSl aN a0.AD,fSl aB a0.AE,fI a0.AG],aA p1 30 [fSl aD i.2.2.1,fSl tI i.2.2.2.1,fEq i.2.2.2.2.2.2.2,fSl aB i.2.2.2.2.2.1,fI i.2.2.2.2.2.2.1],aC v2 71 aO x1,aC i.2.2.2.2.2.2.2 54 cE i.2.2.2.2.1]) (AA,0,x16,x17,x18,x19,x20,v8) H (Sc (Sc (Sc (Sc (Sc (Sc (Sc (Sc (Sc (Sc (Sc cG.nil))))))))))) rfl ?_
 clear H;rintro⟨k3,x44,x45,x46,x47,x48,x49,v14⟩ H
 replace H:pP AA (fA AA) a0 a4 y8 y10 z4 k3 x44 x45 x46 x47 x48 x49=_:=H
 try dsimp only
 obtain _ | k3:=k3
 rw [pP]at H;cases H
 rw [pP]at H
 refine aK 6 rfl (fun hc_v14=>?_)
 refine aI ?_
 refine Z7 ?_
 revert H;refine is (fun c9 H=>?_) fun c9 H=>?_
 refine cO hh c9 ?_
 refine Z2 ?_
 refine aI ?_
 refine Z1 ?_
 revert H;refine bs fun y17 h25 H=>?_
 revert H;refine bs fun y18 h26 H=>?_
 revert H;refine bs fun z9 h27 H=>?_
 apply bJ (ods:=[_,_,_,_,_,_,_,_,_,_,_,_,_,_,_]) 15 0 7 bI rfl rfl rfl
 refine ND ?_
 refine M5 ?_
 intros
 refine My (bW rfl hh hh (el rfl) h25) fun _=>?_
 refine M5 ?_
 intros
 refine pQ (od:=odC [] true (fSl tI y18) []) (Φ:=fSl tI y18) rfl (fun _=>rfl) a1Z rfl rfl (has rfl) (aJ.cons (has rfl) (aJ.cons (has rfl) (aJ.cons (has rfl) aJ.nil))) rfl (cb rfl) (aAD AA y8 a4 z4 y18 h26) (fun _=>?_)
 refine M2 ?_
 intros
 refine My (dO rfl hh hh h27) fun _=>?_
 refine Z1 ?_
 refine mE ?_
 refine iJ ?_
 refine mK (x:=(⟨x45,x46,x47,x48,x49⟩:Ad)) ?_
 revert H;refine bs fun y19 h28 H=>?_
 refine gF a1Z rfl rfl rfl hh (aJ.cons hh (aJ.cons hh (aJ.cons hh (aJ.cons hh (aJ.cons hh aJ.nil))))) rfl (cb rfl) (ih_r07_shut p1 (⟨a0.AF,a0.AD,a0.AE,a0.AG⟩:AI) (⟨x45,x46,x47,x48,x49⟩:Ad) y17.AQ y18 z9 y19 h28) rfl ?_
 refine mS (fun v15=>?_)
 refine aK 1 rfl (fun hc_v15=>?_)
 refine Z5 ?_
 revert H;refine bs fun z10 h29 H=>?_
 refine Yy (dO rfl hh hh h29) ?_
 refine Z2 ?_
 refine aE [2,3,4,5,0,6,1] (by decide) ?_
 exact eC ((k3,z10,y19.AF,y19.Ab,y19.AD,y19.AE,y19.AG,v15)) ⟨H,a1F _⟩ (Sc (Sc (Sc (Sc (Sc (Sc (Sc (Sc (Sc (Sc (Sc cG.nil))))))))))) rfl
 exact fk
 kernel_rfl
 refine cN hh c9 ?_
 refine Z5 ?_
 exact eC ((x45,x46,x47,x48,x49,v14)) (a1O H).symm (Sc (Sc (Sc (Sc (Sc (Sc (Sc (Sc cG.nil)))))))) rfl
 clear H;intro i hi;obtain⟨x33,x34,x35,x36,x37,v12⟩:=i;subst o5;have H:=Hr5;clear Hr5;try dsimp only at H
 try dsimp only
 refine aK 6 rfl (fun hc_v12=>?_)
 refine Z4 ?_
 revert H;refine bs fun y20 h30 H=>?_
 refine gF a1Z rfl rfl rfl hh (aJ.cons hh (aJ.cons hh (aJ.cons hh aJ.nil))) rfl (cb rfl) (aAD AA a3 a4 z4 y20 h30) rfl ?_
 refine Z2 ?_
 revert H;refine bs fun z11 h31 H=>?_
 refine Yy (dO rfl hh hh h31) ?_
 refine Z5 ?_
 refine aE [1,2,3,4,5,6] (by decide) ?_
 exact eC ((z11,y20,y1.N,y9,x33,x34,x35,x36,x37,v12)) (a1O H).symm (Sc (Sc (Sc (Sc (Sc (Sc (Sc cG.nil))))))) rfl
 refine cN hh c7 ?_
 refine Z3 ?_
 refine cV ?_
 refine aBp (ψs:=[fI y1.Op,fI y1.N,fEq v2,fSl tI z1,fSl tI []]) (aQ.cons Ent.rfl (aQ.cons Ent.rfl (aQ.cons Ent.rfl (aQ.cons Ent.rfl (aQ.cons dF aQ.nil))))) ?_
 refine aE [0,1,2,3,5,4] (by decide) ?_
 exact eC ((a4,a3,y1.N,[],a1.AF,a1.Ab,a1.AD,a1.AE,a1.AG,v1)) (a1O H).symm (Sc (Sc (Sc (Sc (Sc (Sc (Sc cG.nil))))))) rfl
 clear H;intro i hi;obtain⟨x6,x7,x8,x9,x10,x11,x12,x13,x14,v7⟩:=i;subst o2;have H:=Hr2;clear Hr2;try dsimp only at H
 try dsimp only
 refine aK 5 rfl (fun hc_v7=>?_)
 refine aI ?_
 revert H;refine bs fun y21 h32 H=>?_
 apply bJ (ods:=[_,_,_,_,_,_,_]) 7 0 6 bI rfl rfl rfl
 refine ND ?_
 refine M6 ?_
 intros
 refine Mo 5 rfl (iQ rfl hh hh (el rfl) h32) fun _=>?_
 refine Z1 ?_
 refine aY ?_
 refine cB (φ:=fSl aO x1) (v:=v2) [] cZ (fun _ h=>nomatch h) ?_
 refine eV (φs':=[fI y1.Op,fI x8,fSl aO x1,fSl tI z1,fSl tI x9]) (i:=2) rfl rfl ?_
 refine oS 176 (ψ:=eE [fI y1.Op,fI x8,fEq v2,fSl tI z1,fSl tI x9]) rfl (mZ (i:=2) (φs:=[fI y1.Op,fI x8,fEq v2,fSl tI z1,fSl tI x9]) (φs':=[fI y1.Op,fI x8,fSl aO x1,fSl tI z1,fSl tI x9]) rfl rfl) ?_
 refine bZ ?_
 refine aY ?_
 refine aFG (z:=(⟨y1.Op,x8,x1,z1,x9⟩:Ae)) a1Z rfl rfl rfl (has rfl) (has rfl) (sz rfl) (a0K.1 (eW h32)).1 ?_
 refine Z5 ?_
 refine aE [1,2,3,4,0] (by decide) ?_
 refine kG (ι:=Nat × Int × List ByteArray × List Int × List Ae × List AM × Int × Value) (fun i=>lX (fA AA) a0 y1 x6 x7 i.1 i.2.1 i.2.2.1 i.2.2.2.1 i.2.2.2.2.1 i.2.2.2.2.2.1 i.2.2.2.2.2.2.1=_) (fun i=>i.1) (fun i=>[(1,fEq (ptr p1)),(4,fI x6),(5,fEq (ptr b1)),(10,fEq (ptr b2)),(13,fSl tI x7),(20,fI i.2.1)]) (fun i=>[aA b3 54 [fI y1.Op,fI x8,fSl aO x1,fSl tI z1,fSl tI x9],aA b2 65 [fI y1.Op,fI y1.N,fSl aO y1.AS,fSl tI y1.AN],aA b1 26 [fSl aD a0.AF,fSl aN a0.AD,fSl aB a0.AE,fI a0.AG],aA p1 30 [fSl aD i.2.2.1,fSl tI i.2.2.2.1,fEq i.2.2.2.2.2.2.2,fSl aB i.2.2.2.2.2.1,fI i.2.2.2.2.2.2.1],aC i.2.2.2.2.2.2.2 54 cE i.2.2.2.2.1]) (AA,0,x10,x11,x12.set a2.toNat (⟨y1.Op,x8,x1,z1,x9⟩:Ae),x13,x14,v7) H (Sc (Sc (Sc (Sc (Sc (Sc cG.nil)))))) rfl ?_
 clear H;rintro⟨k4,x56,x57,x58,x59,x60,x61,v17⟩ H
 replace H:lX (fA AA) a0 y1 x6 x7 k4 x56 x57 x58 x59 x60 x61=_:=H
 try dsimp only
 obtain _ | k4:=k4
 rw [lX]at H;cases H
 rw [lX]at H
 refine aK 4 rfl (fun hc_v17=>?_)
 refine aI ?_
 refine Z7 ?_
 revert H;refine is (fun c10 H=>?_) fun c10 H=>?_
 refine cO hh c10 ?_
 refine Z2 ?_
 refine aI ?_
 refine Z1 ?_
 revert H;refine bs fun y22 h33 H=>?_
 apply bJ (ods:=[_,_,_,_,_,_,_,_,_]) 9 0 5 bI rfl rfl rfl
 refine ND ?_
 refine M5 ?_
 intros
 refine My (bW rfl hh hh (el rfl) h33) fun _=>?_
 refine M3 ?_
 intros
 refine Z1 ?_
 refine aY ?_
 refine aY ?_
 refine mK (x:=(⟨x57,x58,x59,x60,x61⟩:Ad)) ?_
 revert H;refine bs fun y23 h34 H=>?_
 refine gF a1Z rfl rfl rfl hh (aJ.cons hh (aJ.cons hh (aJ.cons hh (aJ.cons hh (aJ.cons hh aJ.nil))))) rfl (cb rfl) (ih_r07_shut p1 (⟨a0.AF,a0.AD,a0.AE,a0.AG⟩:AI) (⟨x57,x58,x59,x60,x61⟩:Ad) y22 x7 x6 y23 h34) rfl ?_
 refine mS (fun v18=>?_)
 refine aK 1 rfl (fun hc_v18=>?_)
 refine Z5 ?_
 revert H;refine bs fun z12 h35 H=>?_
 refine Yy (dO rfl hh hh h35) ?_
 refine Z2 ?_
 refine aE [2,3,4,0,1] (by decide) ?_
 exact eC ((k4,z12,y23.AF,y23.Ab,y23.AD,y23.AE,y23.AG,v18)) ⟨H,a1F _⟩ (Sc (Sc (Sc (Sc (Sc (Sc cG.nil)))))) rfl
 exact fk
 kernel_rfl
 refine cN hh c10 ?_
 refine Z4 ?_
 refine aY ?_
 refine aY ?_
 refine mK (x:=(⟨x57,x58,x59,x60,x61⟩:Ad)) ?_
 cases H
 refine aE [0] (by decide) ?_
 exact eD (.inr rfl) rfl rfl
 exact fk
 kernel_rfl
 exact fk
 kernel_rfl
def rY (AA:Nat) (a0:AI):Option (Ad × Int):=
 (xT AA (⟨a0.AF,a0.AD,a0.AE,a0.AG⟩:AI)).bind fun y1=>
 if y1≠0 then
  some ((⟨[],[],[],[],0⟩:Ad),2)
 else
  (iP AA (⟨a0.AF,a0.AD,a0.AE,a0.AG⟩:AI) a0.AG).bind fun y2=>
  (cQ ([]++a0.AF)).bind fun z1=>
  (mk (⟨0,0,[],[],[]⟩:Ae) (a0.AD.length:Int)).bind fun y3=>
  (xV AA a0.AE).bind fun y4=>
  (fA AA (⟨a0.AF,a0.AD,a0.AE,a0.AG⟩:AI) (⟨z1,y2,y3,y4,a0.AG⟩:Ad) a0.AG y2 (a0.AF.length:Int)).bind fun y5=>
  some ((⟨y5.AF,y5.Ab,y5.AD,y5.AE,y5.AG⟩:Ad),0)
theorem aIA (AA:Nat)  (a0:AI) (r:Ad × Int) (H:rY AA a0=some r):FnS Tryz.prog 8 [fSt cK a0] [] (dK [fSt aAc r.1,fI r.2]) (fun _=>[]):=by
 unfold rY at H
 refine bD Tryz.func8 rfl Tryz.ntmps8 rfl (fun β=>?_)
 refine Z1 ?_
 refine Tn (bR rfl hh bO) fun b1=>?_
 refine Tn (bP rfl zF rfl) fun b2=>?_
 refine Z2 ?_
 refine aI ?_
 revert H;refine B2 fun y1 h1 H=>?_
 refine Tc (aGP _ _ _ h1) ?_
 revert H;refine I2 (fun c1 H=>?_) fun c1 H=>?_
 refine Z2 ?_
 refine Yy (gQ (ψs:=[fEq (.slice none 0 0),fEq (.slice none 0 0),fEq (.slice none 0 0),fEq (.slice none 0 0),fI 0]) rfl aAI rfl bS.nil rfl) ?_
 refine cT (φs':=[fEq (.slice none 0 0),fEq (.slice none 0 0),fEq (.slice none 0 0),fEq (.slice none 0 0),fI 0]) a1Z rfl rfl (has rfl) (has rfl) (aG (aH a1Z) (aG (aH a1Z) (aG (aH a1Z) (aG (aH a1Z) (aG (aH a1Z) bH))))) (sz rfl) rfl rfl rfl ?_
 refine Z3 ?_
 cases H
 refine aE [0] (by decide) ?_
 exact zS rfl (ag rfl) rfl (cC rfl) (cC rfl) (aBb (aQ.cons dF (aQ.cons dF (aQ.cons dF (aQ.cons dF (aQ.cons Ent.rfl aQ.nil)))))) rfl
 revert H;refine B7 fun y2 h2 H=>?_
 refine Tc (aBi _ _ _ _ h2) ?_
 refine Z2 ?_
 refine aI ?_
 revert H;refine bs fun z1 h3 H=>?_
 revert H;refine bs fun y3 h4 H=>?_
 revert H;refine bs fun y4 h5 H=>?_
 apply bJ (ods:=[_,_,_,_,_,_,_,_,_,_,_,_,_,_,_,_]) 16 2 4 bI rfl rfl rfl
 refine ND ?_
 refine M2 ?_
 intros
 refine aBc (od:=odC [] true (fSl aD z1) []) rfl (fun _=>rfl) a1Z rfl rfl (has rfl) (has rfl) (et rfl) rfl h3 (fun _=>?_)
 refine M4 ?_
 intros
 refine Mn 2 (fun b3=> .slice (some ⟨b3,0,none⟩) y3.length y3.length) (fun b3=>aC (.slice (some ⟨b3,0,none⟩) y3.length y3.length) 54 cE y3) rfl (aEf (t:=cE) (z:=(⟨0,0,[],[],[]⟩:Ae)) rfl (has rfl) (et rfl) rfl vE (aQ.cons Ent.rfl (aQ.cons Ent.rfl (aQ.cons dF (aQ.cons dF (aQ.cons dF aQ.nil))))) h4) (fun b3 u1=>?_)
 refine M2 ?_
 intros
 refine Nc (aIs _ _ _ h5) fun _=>?_
 refine M2 ?_
 intros
 refine D1 7 b3 _ (fun b3 _=>eE [fSl aD z1,fSl tI y2,fEq (.slice (some ⟨b3,0,none⟩) y3.length y3.length),fSl aB y4,fI a0.AG]) rfl (gQ (ψs:=[fSl aD z1,fSl tI y2,fEq (.slice (some ⟨b3,0,none⟩) y3.length y3.length),fSl aB y4,fI a0.AG]) rfl aAI rfl (bS.cons (has rfl) (cF (aT)) (bS.cons (has rfl) (cF (aT)) (bS.cons (has rfl) (cF (aH a1Z)) (bS.cons (has rfl) (cF (aT)) (bS.cons (has rfl) (cF (aH a1Z)) bS.nil))))) rfl) (fun _=>?_)
 refine N_new (od:=odN1 7 [3] true (fun b3 _ b4 _=>fEq (ptr b4)) (fun b3 _ b4 _=>[aA b4 30 [fSl aD z1,fSl tI y2,fEq (.slice (some ⟨b3,0,none⟩) y3.length y3.length),fSl aB y4,fI a0.AG]])) (p:=3) (f:=fun b4=>ptr b4) (τ:=fun b4=>aA b4 30 [fSl aD z1,fSl tI y2,fEq (.slice (some ⟨b3,0,none⟩) y3.length y3.length),fSl aB y4,fI a0.AG]) rfl (fun _=>rfl) (fun _=>rfl) a1Z rfl rfl (bR rfl (has rfl) bO) (fun b4 u2=>?_)
 refine D1 14 b4 _ (fun b4 _=>fEq (ptr b4)) rfl (aAU rfl hh) (fun _=>?_)
 refine Z1 ?_
 generalize (Value.slice (some ⟨b3,0,none⟩) _ _)=v1
 refine aK 2 rfl (fun hc_v1=>?_)
 refine Z10 ?_
 refine cW ?_
 refine cV ?_
 refine mK (x:=(⟨z1,y2,y3,y4,a0.AG⟩:Ad)) ?_
 revert H;refine bs fun y5 h6 H=>?_
 refine Tc (aIC _ _ _ _ _ _ _ _ h6) ?_
 refine mS (fun v2=>?_)
 refine aK 1 rfl (fun hc_v2=>?_)
 refine Z5 ?_
 refine cW ?_
 refine cT (φs':=[fSl aD y5.AF,fSl tI y5.Ab,fEq v2,fSl aB y5.AE,fI y5.AG]) a1Z rfl rfl (has rfl) (has rfl) (aG (aT) (aG (aT) (aG (aH hc_v2) (aG (aT) (aG (aH a1Z) bH))))) (sz rfl) rfl rfl rfl ?_
 refine Z3 ?_
 refine cW ?_
 refine cB (φ:=fSl cE y5.AD) (v:=v2) [] cZ (fun _ h=>nomatch h) ?_
 refine eV (φs':=[fSl aD y5.AF,fSl tI y5.Ab,fSl cE y5.AD,fSl aB y5.AE,fI y5.AG]) (i:=2) rfl rfl ?_
 refine cW ?_
 refine cL ?_
 refine eV (φs':=[fSl aD y5.AF,fSl tI y5.Ab,fSl cE y5.AD,fSl aB y5.AE,fI y5.AG]) (i:=2) rfl rfl ?_
 refine oS 40 (ψ:=eE [fSl aD y5.AF,fSl tI y5.Ab,fEq v2,fSl aB y5.AE,fI y5.AG]) rfl (mZ (i:=2) (φs:=[fSl aD y5.AF,fSl tI y5.Ab,fEq v2,fSl aB y5.AE,fI y5.AG]) (φs':=[fSl aD y5.AF,fSl tI y5.Ab,fSl cE y5.AD,fSl aB y5.AE,fI y5.AG]) rfl rfl) ?_
 refine bZ ?_
 cases H
 refine aE [1] (by decide) ?_
 exact zS rfl (ag rfl) rfl (cC rfl) (cC rfl) Ent.rfl rfl
 exact fk
 kernel_rfl
def pC (a0:List Int) (a1:List Int):Nat->Int->Option ((Unit) ⊕ (Bool))
| 0,_=>none
| k+1,x2=>
 if x2<(a0.length:Int)then
  (idx a0 x2).bind fun y1=>
  (idx a1 x2).bind fun y2=>
  if y1≠y2 then
   (some false).bind fun r=>some (Sum.inr r)
  else
   (chk (x2+1)).bind fun z1=>
   pC a0 a1 k z1
 else
  some (Sum.inl ())
def rO (AA:Nat) (a0:List Int) (a1:List Int):Option (Bool):=
 if (a0.length:Int)≠(a1.length:Int)then
  some false
 else
  (pC a0 a1 AA 0).bind fun o=>match o with
  | Sum.inr r=>some r
  | Sum.inl _=>
  some true
theorem aAw (AA:Nat)  (a0:List Int) (a1:List Int) (r:Bool) (H:rO AA a0 a1=some r):FnS Tryz.prog 37 [fSl tI a0,fSl tI a1] [] (aM r) (fun _=>[]):=by
 unfold rO at H
 refine bD Tryz.func37 rfl Tryz.ntmps37 rfl (fun β=>?_)
 refine Z3 ?_
 refine aI ?_
 revert H;refine I7 (fun c1 H=>?_) fun c1 H=>?_
 refine Z5 ?_
 cases H
 exact To
 revert H;refine B3 fun o1 H Hr1=>?_
 refine aP (ι:=Unit) (fun i=>o1=Sum.inl ()) (fun i=>[]) (fun i=>[]) ?_ ?_
 refine Z4 ?_
 refine Tl (ι:=Nat × Int) (fun i=>pC a0 a1 i.1 i.2=_) (fun i=>i.1) (fun i=>[(0,fSl tI a0),(1,fSl tI a1),(5,fI i.2)]) (fun i=>[]) (AA,0) H ?_
 clear H;rintro⟨k1,x2⟩ H
 replace H:pC a0 a1 k1 x2=_:=H
 try dsimp only
 obtain _ | k1:=k1
 rw [pC]at H;cases H
 rw [pC]at H
 refine aI ?_
 revert H;refine I6 (fun c2 H=>?_) fun c2 H=>?_
 refine Z3 ?_
 refine aI ?_
 refine Z1 ?_
 refine aI ?_
 revert H;refine bs fun y1 h1 H=>?_
 revert H;refine bs fun y2 h2 H=>?_
 apply bJ (ods:=[_,_,_,_,_,_,_,_,_]) 9 0 0 bI rfl rfl rfl
 refine ND ?_
 refine M8 ?_
 intros
 refine M1 ?_
 intros
 revert H;refine I2 (fun c3 H=>?_) fun c3 H=>?_
 revert H;refine B10 fun r1 H e1=>?_
 cases e1;cases Hr1
 cases H
 exact To
 revert H;refine B6 fun z1 h3 H=>?_
 refine Z3 ?_
 exact Tm ((k1,z1)) ⟨H,ls⟩
 exact fk
 kernel_rfl
 refine Z6 ?_
 exact Tm (()) (ij H)
 clear H;intro i hi;subst o1;have H:=Hr1;clear Hr1;try dsimp only at H
 try dsimp only
 refine Z4 ?_
 cases H
 exact To
open Go.SX Go.SW Go.Dt
def nI (a0:AM) (a1:AM):Nat->Int->Option ((Unit) ⊕ (Bool))
| 0,_=>none
| k+1,x2=>
 if x2<(a0.AK.length:Int)then
  (idx a0.AK x2).bind fun y1=>
  (idx a1.AK x2).bind fun y2=>
  bif decide (y1.At=y2.At) && decide (y1.Ak=y2.Ak)then
   (chk (x2+1)).bind fun z1=>
   nI a0 a1 k z1
  else
   (some false).bind fun r=>some (Sum.inr r)
 else
  some (Sum.inl ())
def nS (a0:AM) (a1:AM):Nat->Int->Option ((Unit) ⊕ (Bool))
| 0,_=>none
| k+1,x4=>
 if x4<(a0.AO.length:Int)then
  (idx a0.AO x4).bind fun y3=>
  (idx a1.AO x4).bind fun y4=>
  bif decide (y3.In=y4.In) && decide (y3.AQ=y4.AQ)then
   (chk (x4+1)).bind fun z2=>
   nS a0 a1 k z2
  else
   (some false).bind fun r=>some (Sum.inr r)
 else
  some (Sum.inl ())
def nW (AA:Nat) (a0:AM) (a1:AM):Nat->Int->Option ((Unit) ⊕ (Bool))
| 0,_=>none
| k+1,x6=>
 if x6<(a0.AL.length:Int)then
  (idx a0.AL x6).bind fun y5=>
  (idx a1.AL x6).bind fun y6=>
  if y5.At≠y6.At then
   (some false).bind fun r=>some (Sum.inr r)
  else
   (idx a0.AL x6).bind fun y7=>
   (idx a1.AL x6).bind fun y8=>
   if y7.AQ≠y8.AQ then
    (some false).bind fun r=>some (Sum.inr r)
   else
    (idx a0.AL x6).bind fun y9=>
    (idx a1.AL x6).bind fun y10=>
    (rO AA y9.AU y10.AU).bind fun y11=>
    bif y11 then
     (chk (x6+1)).bind fun z3=>
     nW AA a0 a1 k z3
    else
     (some false).bind fun r=>some (Sum.inr r)
 else
  some (Sum.inl ())
def yP (AA:Nat) (a0:AM) (a1:AM):Option (Bool):=
 if (a0.AK.length:Int)≠(a1.AK.length:Int)then
  some false
 else
  if (a0.AO.length:Int)≠(a1.AO.length:Int)then
   some false
  else
   if (a0.AL.length:Int)≠(a1.AL.length:Int)then
    some false
   else
    (nI a0 a1 AA 0).bind fun o=>match o with
    | Sum.inr r=>some r
    | Sum.inl _=>
    (nS a0 a1 AA 0).bind fun o=>match o with
    | Sum.inr r=>some r
    | Sum.inl _=>
    (nW AA a0 a1 AA 0).bind fun o=>match o with
    | Sum.inr r=>some r
    | Sum.inl _=>
    some true
theorem aJQ (AA:Nat)  (a0:AM) (a1:AM) (r:Bool) (H:yP AA a0 a1=some r):FnS Tryz.prog 38 [fSt aB a0,fSt aB a1] [] (aM r) (fun _=>[]):=by
 unfold yP at H
 refine bD Tryz.func38 rfl Tryz.ntmps38 rfl (fun β=>?_)
 refine Z1 ?_
 refine pF a1Z rfl rfl (bR rfl (has rfl) bO) (fun b1=>?_)
 refine pF a1Z rfl rfl (bR rfl (has rfl) bO) (fun b2=>?_)
 refine Z2 ?_
 refine aI ?_
 refine Z9 ?_
 revert H;refine is (fun c1 H=>?_) fun c1 H=>?_
 refine Yt c1 ?_
 refine Yt c1 ?_
 refine Yt c1 ?_
 refine Yt c1 ?_
 refine Yt c1 ?_
 refine Yt c1 ?_
 refine Yt c1 ?_
 refine Yy (dC rfl hh c1 hh) ?_
 refine Z12 ?_
 refine Z3 ?_
 cases H
 refine aE [] (by decide) ?_
 exact fG rfl (cC rfl) rfl
 refine Yg c1 (bT 1 rfl hh (fa rfl) rfl) ?_
 refine Yh 1 rfl c1 (bA rfl hh (sc rfl) rfl Ent.rfl) ?_
 refine Yg c1 (eP rfl hh (us rfl)) ?_
 refine Yg c1 (bT 1 rfl hh (fa rfl) rfl) ?_
 refine Yh 0 rfl c1 (bA rfl hh (sc rfl) rfl Ent.rfl) ?_
 refine Yg c1 (eP rfl hh (us rfl)) ?_
 refine Yg c1 (lZ rfl hh hh) ?_
 refine Yy (cM rfl hh c1 hh) ?_
 refine Z1 ?_
 revert H;refine is (fun c2 H=>?_) fun c2 H=>?_
 refine Yt c2 ?_
 refine Yt c2 ?_
 refine Yt c2 ?_
 refine Yt c2 ?_
 refine Yt c2 ?_
 refine Yt c2 ?_
 refine Yt c2 ?_
 refine Yy (dC rfl hh c2 hh) ?_
 refine Z6 ?_
 cases H
 refine aE [] (by decide) ?_
 exact fG rfl (cC rfl) rfl
 refine Yg c2 (bT 2 rfl hh (fa rfl) rfl) ?_
 refine Yh 1 rfl c2 (bA rfl hh (sc rfl) rfl Ent.rfl) ?_
 refine Yg c2 (eP rfl hh (us rfl)) ?_
 refine Yg c2 (bT 2 rfl hh (fa rfl) rfl) ?_
 refine Yh 0 rfl c2 (bA rfl hh (sc rfl) rfl Ent.rfl) ?_
 refine Yg c2 (eP rfl hh (us rfl)) ?_
 refine Yg c2 (lZ rfl hh hh) ?_
 refine Yy (cM rfl hh c2 hh) ?_
 refine Z1 ?_
 revert H;refine is (fun c3 H=>?_) fun c3 H=>?_
 refine cO hh c3 ?_
 refine Z4 ?_
 cases H
 refine aE [] (by decide) ?_
 exact fG rfl (cC rfl) rfl
 refine cN hh c3 ?_
 refine Z2 ?_
 revert H;refine bs fun o1 H Hr1=>?_
 refine aP (ι:=Unit) (fun i=>o1=Sum.inl ()) (fun i=>[(2,fEq (ptr b1)),(3,fEq (ptr b2))]) (fun i=>[aA b2 77 [fSl aS a1.AK,fSl aV a1.AO,fSl aU a1.AL],aA b1 77 [fSl aS a0.AK,fSl aV a0.AO,fSl aU a0.AL]]) ?_ ?_
 refine Z4 ?_
 refine kG (ι:=Nat × Int) (fun i=>nI a0 a1 i.1 i.2=_) (fun i=>i.1) (fun i=>[(2,fEq (ptr b1)),(3,fEq (ptr b2)),(5,fI i.2)]) (fun i=>[aA b2 77 [fSl aS a1.AK,fSl aV a1.AO,fSl aU a1.AL],aA b1 77 [fSl aS a0.AK,fSl aV a0.AO,fSl aU a0.AL]]) (AA,0) H (Sc (Sc (Sc cG.nil))) rfl ?_
 clear H;rintro⟨k1,x2⟩ H
 replace H:nI a0 a1 k1 x2=_:=H
 try dsimp only
 obtain _ | k1:=k1
 rw [nI]at H;cases H
 rw [nI]at H
 refine aI ?_
 refine Z7 ?_
 revert H;refine is (fun c4 H=>?_) fun c4 H=>?_
 refine cO hh c4 ?_
 refine Z2 ?_
 refine aI ?_
 refine Z1 ?_
 refine aI ?_
 revert H;refine bs fun y1 h1 H=>?_
 revert H;refine bs fun y2 h2 H=>?_
 apply bJ (ods:=[_,_,_,_,_,_,_,_,_,_,_]) 11 0 2 bI rfl rfl rfl
 refine ND ?_
 refine M3 ?_
 intros
 refine My (bW rfl hh hh (el rfl) h1) fun _=>?_
 refine M4 ?_
 intros
 refine My (bW rfl hh hh (el rfl) h2) fun _=>?_
 refine M1 ?_
 intros
 refine My (aEo rfl hh hh rfl rfl aIi) fun _=>?_
 refine Z2 ?_
 revert H;refine cs (fun c5 H=>?_) fun c5 H=>?_
 refine cN hh (oL c5) ?_
 refine Z5 ?_
 revert H;refine bs fun z1 h3 H=>?_
 refine Yy (dO rfl hh hh h3) ?_
 refine Z2 ?_
 exact eC ((k1,z1)) ⟨H,a1F _⟩ (Sc (Sc (Sc cG.nil))) rfl
 refine cO hh (pS c5) ?_
 refine Z9 ?_
 revert H;refine bs fun r1 H e1=>?_
 have e1:=a1O e1;subst e1;have Hr1:=a1O Hr1;subst Hr1
 cases H
 refine aE [] (by decide) ?_
 exact fG rfl (cC rfl) rfl
 exact fk
 kernel_rfl
 refine cN hh c4 ?_
 refine Z5 ?_
 exact eC (()) (a1O H).symm (Sc (Sc cG.nil)) rfl
 clear H;intro i hi;subst o1;have H:=Hr1;clear Hr1;try dsimp only at H
 try dsimp only
 revert H;refine bs fun o2 H Hr2=>?_
 refine aP (ι:=Unit) (fun i=>o2=Sum.inl ()) (fun i=>[(2,fEq (ptr b1)),(3,fEq (ptr b2))]) (fun i=>[aA b2 77 [fSl aS a1.AK,fSl aV a1.AO,fSl aU a1.AL],aA b1 77 [fSl aS a0.AK,fSl aV a0.AO,fSl aU a0.AL]]) ?_ ?_
 refine Z4 ?_
 refine kG (ι:=Nat × Int) (fun i=>nS a0 a1 i.1 i.2=_) (fun i=>i.1) (fun i=>[(2,fEq (ptr b1)),(3,fEq (ptr b2)),(6,fI i.2)]) (fun i=>[aA b2 77 [fSl aS a1.AK,fSl aV a1.AO,fSl aU a1.AL],aA b1 77 [fSl aS a0.AK,fSl aV a0.AO,fSl aU a0.AL]]) (AA,0) H (Sc (Sc (Sc cG.nil))) rfl ?_
 clear H;rintro⟨k2,x4⟩ H
 replace H:nS a0 a1 k2 x4=_:=H
 try dsimp only
 obtain _ | k2:=k2
 rw [nS]at H;cases H
 rw [nS]at H
 refine aI ?_
 refine Z7 ?_
 revert H;refine is (fun c6 H=>?_) fun c6 H=>?_
 refine cO hh c6 ?_
 refine Z2 ?_
 refine aI ?_
 refine Z1 ?_
 refine aI ?_
 revert H;refine bs fun y3 h4 H=>?_
 revert H;refine bs fun y4 h5 H=>?_
 apply bJ (ods:=[_,_,_,_,_,_,_,_,_,_,_]) 11 0 2 bI rfl rfl rfl
 refine ND ?_
 refine M3 ?_
 intros
 refine My (bW rfl hh hh (el rfl) h4) fun _=>?_
 refine M4 ?_
 intros
 refine My (bW rfl hh hh (el rfl) h5) fun _=>?_
 refine M1 ?_
 intros
 refine My (aEo rfl hh hh rfl rfl aGG) fun _=>?_
 refine Z2 ?_
 revert H;refine cs (fun c7 H=>?_) fun c7 H=>?_
 refine cN hh (oL c7) ?_
 refine Z5 ?_
 revert H;refine bs fun z2 h6 H=>?_
 refine Yy (dO rfl hh hh h6) ?_
 refine Z2 ?_
 exact eC ((k2,z2)) ⟨H,a1F _⟩ (Sc (Sc (Sc cG.nil))) rfl
 refine cO hh (pS c7) ?_
 refine Z9 ?_
 revert H;refine bs fun r2 H e2=>?_
 have e2:=a1O e2;subst e2;have Hr2:=a1O Hr2;subst Hr2
 cases H
 refine aE [] (by decide) ?_
 exact fG rfl (cC rfl) rfl
 exact fk
 kernel_rfl
 refine cN hh c6 ?_
 refine Z5 ?_
 exact eC (()) (a1O H).symm (Sc (Sc cG.nil)) rfl
 clear H;intro i hi;subst o2;have H:=Hr2;clear Hr2;try dsimp only at H
 try dsimp only
 revert H;refine bs fun o3 H Hr3=>?_
 refine aP (ι:=Unit) (fun i=>o3=Sum.inl ()) (fun i=>[]) (fun i=>[aA b2 77 [fSl aS a1.AK,fSl aV a1.AO,fSl aU a1.AL],aA b1 77 [fSl aS a0.AK,fSl aV a0.AO,fSl aU a0.AL]]) ?_ ?_
 refine Z4 ?_
 refine kG (ι:=Nat × Int) (fun i=>nW AA a0 a1 i.1 i.2=_) (fun i=>i.1) (fun i=>[(2,fEq (ptr b1)),(3,fEq (ptr b2)),(7,fI i.2)]) (fun i=>[aA b2 77 [fSl aS a1.AK,fSl aV a1.AO,fSl aU a1.AL],aA b1 77 [fSl aS a0.AK,fSl aV a0.AO,fSl aU a0.AL]]) (AA,0) H (Sc (Sc (Sc cG.nil))) rfl ?_
 clear H;rintro⟨k3,x6⟩ H
 replace H:nW AA a0 a1 k3 x6=_:=H
 try dsimp only
 obtain _ | k3:=k3
 rw [nW]at H;cases H
 rw [nW]at H
 refine aI ?_
 refine Z7 ?_
 revert H;refine is (fun c8 H=>?_) fun c8 H=>?_
 refine cO hh c8 ?_
 refine Z2 ?_
 refine aI ?_
 refine Z1 ?_
 refine aI ?_
 revert H;refine bs fun y5 h7 H=>?_
 revert H;refine bs fun y6 h8 H=>?_
 revert H;refine is (fun c9 H=>?_) fun c9 H=>?_
 apply bJ (ods:=[_,_,_,_,_,_,_,_,_,_,_,_,_,_,_,_,_,_,_,_,_,_,_,_,_,_,_,_,_,_,_,_,_,_,_,_,_,_,_,_,_,_,_,_]) 44 0 2 bI rfl rfl rfl
 refine ND ?_
 refine M3 ?_
 intros
 refine My (bW rfl hh hh (el rfl) h7) fun _=>?_
 refine M5 ?_
 intros
 refine My (bW rfl hh hh (el rfl) h8) fun _=>?_
 refine M4 ?_
 intros
 refine Mt c9 fun _=>?_
 refine Mt c9 fun _=>?_
 refine Mt c9 fun _=>?_
 refine Mt c9 fun _=>?_
 refine Mt c9 fun _=>?_
 refine Mt c9 fun _=>?_
 refine Mt c9 fun _=>?_
 refine Mt c9 fun _=>?_
 refine Mt c9 fun _=>?_
 refine Mt c9 fun _=>?_
 refine Mt c9 fun _=>?_
 refine Mt c9 fun _=>?_
 refine Mt c9 fun _=>?_
 refine My (dC rfl hh c9 hh) fun _=>?_
 refine M8 ?_
 intros
 refine M8 ?_
 intros
 refine Z12 ?_
 revert H;refine bs fun r3 H e3=>?_
 have e3:=a1O e3;subst e3;have Hr3:=a1O Hr3;subst Hr3
 cases H
 refine aE [] (by decide) ?_
 exact fG rfl (cC rfl) rfl
 exact fk
 kernel_rfl
 revert H;refine bs fun y7 h9 H=>?_
 revert H;refine bs fun y8 h10 H=>?_
 revert H;refine is (fun c10 H=>?_) fun c10 H=>?_
 apply bJ (ods:=[_,_,_,_,_,_,_,_,_,_,_,_,_,_,_,_,_,_,_,_,_,_,_,_,_,_,_,_,_,_,_,_,_,_,_,_,_,_,_,_,_,_,_,_]) 44 0 2 bI rfl rfl rfl
 refine ND ?_
 refine M3 ?_
 intros
 refine My (bW rfl hh hh (el rfl) h7) fun _=>?_
 refine M5 ?_
 intros
 refine My (bW rfl hh hh (el rfl) h8) fun _=>?_
 refine M4 ?_
 intros
 refine Mg c9 (bT 2 rfl hh (fa rfl) rfl) fun _=>?_
 refine dH (od:=odC [1] false (fSl aU a0.AL) [cS]) (ps:=[1]) (φ:=fSl aU a0.AL) rfl (fun _=>rfl) ⟨_,_,rfl,rfl,c9⟩ rfl rfl (bA rfl hh (sc rfl) rfl Ent.rfl) (fun _=>?_)
 refine Mg c9 (cI rfl hh) fun _=>?_
 refine Mg c9 (bW rfl hh hh (el rfl) h9) fun _=>?_
 refine Mg c9 (fU (t':=tI) (z:=y7.AQ) rfl hh (fa rfl) rfl) fun _=>?_
 refine Mg c9 (fP rfl hh (sc rfl) rfl) fun _=>?_
 refine Mg c9 (bT 2 rfl hh (fa rfl) rfl) fun _=>?_
 refine dH (od:=odC [0] false (fSl aU a1.AL) [cS]) (ps:=[0]) (φ:=fSl aU a1.AL) rfl (fun _=>rfl) ⟨_,_,rfl,rfl,c9⟩ rfl rfl (bA rfl hh (sc rfl) rfl Ent.rfl) (fun _=>?_)
 refine Mg c9 (cI rfl hh) fun _=>?_
 refine Mg c9 (bW rfl hh hh (el rfl) h10) fun _=>?_
 refine Mg c9 (fU (t':=tI) (z:=y8.AQ) rfl hh (fa rfl) rfl) fun _=>?_
 refine Mg c9 (fP rfl hh (sc rfl) rfl) fun _=>?_
 refine Mg c9 (lZ rfl hh hh) fun _=>?_
 refine My (cM rfl hh c9 hh) fun _=>?_
 refine M1 ?_
 intros
 refine Mt c10 fun _=>?_
 refine Mt c10 fun _=>?_
 refine Mt c10 fun _=>?_
 refine Mt c10 fun _=>?_
 refine Mt c10 fun _=>?_
 refine Mt c10 fun _=>?_
 refine Mt c10 fun _=>?_
 refine Mt c10 fun _=>?_
 refine Mt c10 fun _=>?_
 refine Mt c10 fun _=>?_
 refine Mt c10 fun _=>?_
 refine Mt c10 fun _=>?_
 refine Mt c10 fun _=>?_
 refine Mt c10 fun _=>?_
 refine My (dC rfl hh c10 hh) fun _=>?_
 refine Z12 ?_
 revert H;refine bs fun r4 H e4=>?_
 have e4:=a1O e4;subst e4;have Hr3:=a1O Hr3;subst Hr3
 cases H
 refine aE [] (by decide) ?_
 exact fG rfl (cC rfl) rfl
 exact fk
 kernel_rfl
 revert H;refine bs fun y9 h11 H=>?_
 revert H;refine bs fun y10 h12 H=>?_
 revert H;refine bs fun y11 h13 H=>?_
 apply bJ (ods:=[_,_,_,_,_,_,_,_,_,_,_,_,_,_,_,_,_,_,_,_,_,_,_,_,_,_,_,_,_,_,_,_,_,_,_,_,_,_,_,_,_,_,_,_]) 44 0 2 bI rfl rfl rfl
 refine ND ?_
 refine M3 ?_
 intros
 refine My (bW rfl hh hh (el rfl) h7) fun _=>?_
 refine M5 ?_
 intros
 refine My (bW rfl hh hh (el rfl) h8) fun _=>?_
 refine M4 ?_
 intros
 refine Mg c9 (bT 2 rfl hh (fa rfl) rfl) fun _=>?_
 refine dH (od:=odC [1] false (fSl aU a0.AL) [cS]) (ps:=[1]) (φ:=fSl aU a0.AL) rfl (fun _=>rfl) ⟨_,_,rfl,rfl,c9⟩ rfl rfl (bA rfl hh (sc rfl) rfl Ent.rfl) (fun _=>?_)
 refine Mg c9 (cI rfl hh) fun _=>?_
 refine Mg c9 (bW rfl hh hh (el rfl) h9) fun _=>?_
 refine Mg c9 (fU (t':=tI) (z:=y7.AQ) rfl hh (fa rfl) rfl) fun _=>?_
 refine Mg c9 (fP rfl hh (sc rfl) rfl) fun _=>?_
 refine Mg c9 (bT 2 rfl hh (fa rfl) rfl) fun _=>?_
 refine dH (od:=odC [0] false (fSl aU a1.AL) [cS]) (ps:=[0]) (φ:=fSl aU a1.AL) rfl (fun _=>rfl) ⟨_,_,rfl,rfl,c9⟩ rfl rfl (bA rfl hh (sc rfl) rfl Ent.rfl) (fun _=>?_)
 refine Mg c9 (cI rfl hh) fun _=>?_
 refine Mg c9 (bW rfl hh hh (el rfl) h10) fun _=>?_
 refine Mg c9 (fU (t':=tI) (z:=y8.AQ) rfl hh (fa rfl) rfl) fun _=>?_
 refine Mg c9 (fP rfl hh (sc rfl) rfl) fun _=>?_
 refine Mg c9 (lZ rfl hh hh) fun _=>?_
 refine My (cM rfl hh c9 hh) fun _=>?_
 refine M1 ?_
 intros
 refine Mg c10 (bT 2 rfl hh (fa rfl) rfl) fun _=>?_
 refine dH (od:=odC [1] false (fSl aU a0.AL) [cS]) (ps:=[1]) (φ:=fSl aU a0.AL) rfl (fun _=>rfl) ⟨_,_,rfl,rfl,c10⟩ rfl rfl (bA rfl hh (sc rfl) rfl Ent.rfl) (fun _=>?_)
 refine Mg c10 (cI rfl hh) fun _=>?_
 refine Mg c10 (bW rfl hh hh (el rfl) h11) fun _=>?_
 refine Mg c10 (fU (t':=(tSl tI)) (z:=y9.AU) rfl hh (fa rfl) rfl) fun _=>?_
 refine Mg c10 (fP rfl hh (sc rfl) rfl) fun _=>?_
 refine Mg c10 (bT 2 rfl hh (fa rfl) rfl) fun _=>?_
 refine dH (od:=odC [0] false (fSl aU a1.AL) [cS]) (ps:=[0]) (φ:=fSl aU a1.AL) rfl (fun _=>rfl) ⟨_,_,rfl,rfl,c10⟩ rfl rfl (bA rfl hh (sc rfl) rfl Ent.rfl) (fun _=>?_)
 refine Mg c10 (cI rfl hh) fun _=>?_
 refine Mg c10 (bW rfl hh hh (el rfl) h12) fun _=>?_
 refine Mg c10 (fU (t':=(tSl tI)) (z:=y10.AU) rfl hh (fa rfl) rfl) fun _=>?_
 refine Mg c10 (fP rfl hh (sc rfl) rfl) fun _=>?_
 refine pQ (od:=odC [] true (aM y11) []) (Φ:=aM y11) rfl (fun _=>rfl) ⟨_,_,rfl,rfl,c10⟩ rfl rfl (has rfl) (aJ.cons (has rfl) (aJ.cons (has rfl) aJ.nil)) rfl (cb rfl) (aAw AA y9.AU y10.AU y11 h13) (fun _=>?_)
 refine Mg c10 (mH rfl hh) fun _=>?_
 refine My (cM rfl hh c10 hh) fun _=>?_
 refine Z2 ?_
 revert H;refine cs (fun c11 H=>?_) fun c11 H=>?_
 refine cN hh (oL c11) ?_
 refine Z5 ?_
 revert H;refine bs fun z3 h14 H=>?_
 refine Yy (dO rfl hh hh h14) ?_
 refine Z2 ?_
 exact eC ((k3,z3)) ⟨H,a1F _⟩ (Sc (Sc (Sc cG.nil))) rfl
 refine cO hh (pS c11) ?_
 refine Z9 ?_
 revert H;refine bs fun r5 H e5=>?_
 have e5:=a1O e5;subst e5;have Hr3:=a1O Hr3;subst Hr3
 cases H
 refine aE [] (by decide) ?_
 exact fG rfl (cC rfl) rfl
 exact fk
 kernel_rfl
 refine cN hh c8 ?_
 refine Z5 ?_
 exact eC (()) (a1O H).symm cG.nil rfl
 clear H;intro i hi;subst o3;have H:=Hr3;clear Hr3;try dsimp only at H
 try dsimp only
 refine Z4 ?_
 cases H
 refine aE [] (by decide) ?_
 exact fG rfl (cC rfl) rfl
def nQ (rec_r07_sameExp:AR->AR->Option (Bool)) (a0:AR) (a1:AR):Nat->Int->Option ((Unit) ⊕ (Bool))
| 0,_=>none
| k+1,x2=>
 if x2<(a0.AN.length:Int)then
  (idx a0.AN x2).bind fun y1=>
  (idx a1.AN x2).bind fun y2=>
  (rec_r07_sameExp y1 y2).bind fun y3=>
  bif y3 then
   (chk (x2+1)).bind fun z1=>
   nQ rec_r07_sameExp a0 a1 k z1
  else
   (some false).bind fun r=>some (Sum.inr r)
 else
  some (Sum.inl ())
def mC:Nat->AR->AR->Option (Bool)
| 0,_,_=>none
| AA+1,a0,a1=>
 if a0.Op≠a1.Op then
  some false
 else
  if a0.N≠a1.N then
   some false
  else
   if (a0.AN.length:Int)≠(a1.AN.length:Int)then
    some false
   else
    (nQ (mC AA) a0 a1 AA 0).bind fun o=>match o with
    | Sum.inr r=>some r
    | Sum.inl _=>
    some true
theorem aJq:∀ (AA:Nat),(∀  (a0:AR) (a1:AR) (r:Bool) (H:mC AA a0 a1=some r),FnS Tryz.prog 39 [fSt aO a0,fSt aO a1] [] (aM r) (fun _=>[])):=by
 intro AA
 induction AA with
 | zero=>exact fun a0 a1 r H=>(by rw [mC]at H;cases H)
 | succ AA ih=>
 have ih_r07_sameExp:=@ih
 refine ?_
 intro a0 a1 r H
 rw [mC]at H
 refine bD Tryz.func39 rfl Tryz.ntmps39 rfl (fun β=>?_)
 refine Z1 ?_
 refine Tn (bR rfl hh bO) fun b1=>?_
 refine Tn (bR rfl hh bO) fun b2=>?_
 refine Z2 ?_
 refine aI ?_
 revert H;refine I7 (fun c1 H=>?_) fun c1 H=>?_
 refine Z12 ?_
 refine Z9 ?_
 cases H
 refine aE [] (by decide) ?_
 exact To
 revert H;refine I7 (fun c2 H=>?_) fun c2 H=>?_
 refine Z12 ?_
 refine Z2 ?_
 cases H
 refine aE [] (by decide) ?_
 exact To
 refine Z1 ?_
 refine Yh 1 rfl c2 (bA rfl hh (sc rfl) rfl (eQ eG)) ?_
 refine Z2 ?_
 refine Yh 0 rfl c2 (bA rfl hh (sc rfl) rfl (eQ eG)) ?_
 revert H;refine I4 (fun c3 H=>?_) fun c3 H=>?_
 refine Z5 ?_
 cases H
 refine aE [] (by decide) ?_
 exact To
 revert H;refine B3 fun o1 H Hr1=>?_
 refine aP (ι:=Unit) (fun i=>o1=Sum.inl ()) (fun i=>[]) (fun i=>[aA b2 71 [fI a1.Op,fI a1.N,dD a1.AN],aA b1 71 [fI a0.Op,fI a0.N,dD a0.AN]]) ?_ ?_
 refine Z4 ?_
 refine Tl (ι:=Nat × Int) (fun i=>nQ (mC AA) a0 a1 i.1 i.2=_) (fun i=>i.1) (fun i=>[(2,fEq (ptr b1)),(3,fEq (ptr b2)),(5,fI i.2)]) (fun i=>[aA b2 71 [fI a1.Op,fI a1.N,dD a1.AN],aA b1 71 [fI a0.Op,fI a0.N,dD a0.AN]]) (AA,0) H ?_
 clear H;rintro⟨k1,x2⟩ H
 replace H:nQ (mC AA) a0 a1 k1 x2=_:=H
 try dsimp only
 obtain _ | k1:=k1
 rw [nQ]at H;cases H
 rw [nQ]at H
 refine aI ?_
 refine Z3 ?_
 refine Yo 1 rfl (bA rfl hh (sc rfl) rfl (eQ eG)) ?_
 revert H;refine I3 (fun c4 H=>?_) fun c4 H=>?_
 refine Z3 ?_
 refine aI ?_
 refine Z1 ?_
 refine aI ?_
 revert H;refine bs fun y1 h1 H=>?_
 revert H;refine bs fun y2 h2 H=>?_
 revert H;refine bs fun y3 h3 H=>?_
 apply bJ (ods:=[_,_,_,_,_,_,_,_,_,_,_,_]) 12 0 2 bI rfl rfl rfl
 refine ND ?_
 refine M1 ?_
 intros
 refine Mo 1 rfl (bA rfl hh (sc rfl) rfl (eQ eG)) fun _=>?_
 refine M4 ?_
 intros
 refine Mo 0 rfl (bA rfl hh (sc rfl) rfl (eQ eG)) fun _=>?_
 refine M3 ?_
 intros
 refine Nc (ih_r07_sameExp _ _ _ h3) fun _=>?_
 refine M1 ?_
 intros
 refine Z2 ?_
 revert H;refine cs (fun c5 H=>?_) fun c5 H=>?_
 revert H;refine B6 fun z1 h4 H=>?_
 refine Z3 ?_
 exact Tm ((k1,z1)) ⟨H,ls⟩
 revert H;refine B10 fun r1 H e1=>?_
 cases e1;cases Hr1
 cases H
 refine aE [] (by decide) ?_
 exact To
 exact fk
 kernel_rfl
 refine Z6 ?_
 exact Tm (()) (ij H)
 clear H;intro i hi;subst o1;have H:=Hr1;clear Hr1;try dsimp only at H
 try dsimp only
 refine Z4 ?_
 cases H
 refine aE [] (by decide) ?_
 exact To
end Go.Proofs.YtgidgoahhepmlaaGreat
namespace Go.BX
noncomputable section
inductive V where
 | int (k:IntKind) (n:Int)
 | bool (b:Bool)
 | str (s:ByteArray)
 | ptr (b off:Nat)
 | nilp
 | sl (b off len cap:Nat)
 | so (b off len es:Nat)
 | nils
 | map (b:Nat)
 | nilm
 | fn (f:Nat) (first cap:List V)
 | yld (l:Nat)
 | nilf
 | iface (t:Nat) (v:V)
 | nili
 | agg (cs:List V)
 | tup (vs:List V)
 deriving Inhabited
structure PE where
 v:V
 r:Bool
inductive O where
 | val (v:V)
 | panic (ch:List PE)
inductive Tr (α:Type) where
 | leaf
 | node (l:Tr α) (v:Option α) (r:Tr α)
inductive Pa where
 | h
 | l (p:Pa)
 | r (p:Pa)
def paD (d:Nat):Nat->Pa:=Nat.rec (fun _=> .h) (fun _ ih n=>Bool.rec (Bool.rec (.r (ih (Nat.sub (Nat.div n 2) 1))) (.l (ih (Nat.div n 2))) (Nat.beq (Nat.mod n 2) 1)) .h (Nat.beq n 0)) d
def pa (n:Nat):Pa:=paD (Nat.succ n) n
def gp {α:Type} (t:Tr α):Pa->Option α:=Tr.rec (fun _=>none) (fun _ v _ il ir p=>Pa.rec v (fun q _=>il q) (fun q _=>ir q) p) t
def one' {α β:Type} (v:Option α) (p:Pa):(Tr α->β)->β:=Pa.rec (fun k=>k (.node .leaf v .leaf)) (fun _ ih k=>ih fun t=>k (.node t none .leaf)) (fun _ ih k=>ih fun t=>k (.node .leaf none t)) p
def pp {α β:Type} (t:Tr α) (v:Option α):Pa->(Tr α->β)->β:=Tr.rec (fun p k=>one' v p k) (fun l x r il ir p k=>Pa.rec (k (.node l v r)) (fun q _=>il q fun l'=>k (.node l' x r)) (fun q _=>ir q fun r'=>k (.node l x r')) p) t
def uC {α β:Type} (l:List α):Nat->Tr α->(Tr α->β)->β:=List.rec (fun _ t k=>k t) (fun x _ ih n t k=>pp t (some x) (pa n) fun t=>ih (Nat.succ n) t k) l
def eO {β:Type} (n:Nat) (d:β) (f:Nat->β):β:=Nat.rec d (fun m _=>f m) (Nat.succ n)
def nth {α:Type} (l:List α):Nat->Option α:=List.rec (fun _=>none) (fun x _ ih n=>Nat.rec (some x) (fun m _=>ih m) n) l
def dr {α:Type} (n:Nat):List α->List α:=Nat.rec (fun l=>l) (fun _ ih l=>List.rec [] (fun _ r _=>ih r) l) n
def tk {α:Type} (n:Nat):List α->Option (List α):=Nat.rec (fun _=>some []) (fun _ ih l=>List.rec none (fun x r _=>Option.rec none (fun t=>some (x :: t)) (ih r)) l) n
def ap {α:Type} (l m:List α):List α:=List.rec m (fun x _ ih=>x :: ih) l
def ln {α:Type} (l:List α):Nat->Nat:=List.rec (fun n=>n) (fun _ _ ih n=>ih (Nat.succ n)) l
def ov {α:Type} (new:List α):List α->Option (List α):=List.rec (fun c=>some c) (fun x _ ih c=>List.rec none (fun _ r _=>Option.rec none (fun t=>some (x :: t)) (ih r)) c) new
def pl {α:Type} (new:List α) (off:Nat):List α->Option (List α):=Nat.rec (fun c=>ov new c) (fun _ ih c=>List.rec none (fun x r _=>Option.rec none (fun t=>some (x :: t)) (ih r)) c) off
def rep {α:Type} (l:List α) (n:Nat):List α:=Nat.rec [] (fun _ ih=>ap l ih) n
structure Ent where
 key:V
 val:V
 born:Nat
inductive Ob where
 | map (es:List Ent) (clock:Nat)
 | loop (st:LoopState) (pend:Option Code) (f:Nat) (e:Tr V) (n:Nat) (ps:List Nat) (sg bd:Code) (d:Nat)
 | dfr (live:Bool)
inductive Blk where
 | cells (c:List V) (t:Nat) (op:Nat)
 | obj (o:Ob)
inductive Fp where
 | cell (b lo hi:Nat) (w:Bool)
 | fresh (n0 n1:Nat)
structure S where
 h:Tr Blk
 nx:Nat
 log:List Fp
inductive AJ where
 | ret (o:O)
 | fail
 | rd (b off n:Nat) (k:List V->AJ)
 | rd1 (b off:Nat) (k:V->AJ)
 | wr (b off:Nat) (l:List V) (k:AJ)
 | sz (b:Nat) (k:Nat->Nat->Nat->AJ)
 | new (c:List V) (t op:Nat) (k:Nat->AJ)
 | del (b:Nat) (k:AJ)
 | newO (o:Ob) (k:Nat->AJ)
 | getO (b:Nat) (k:Ob->AJ)
 | setO (b:Nat) (o:Ob) (k:AJ)
 | sub (p:AJ) (k:V->List Fp->AJ)
def dY (n0 n1:Nat) (l:List Fp):List Fp:=List.rec [] (fun f _ ih=>Fp.rec (fun b lo hi w=>Bool.rec (Bool.rec (.cell b lo hi w :: ih) ih (Nat.blt b n1)) (.cell b lo hi w :: ih) (Nat.blt b n0)) (fun m0 m1=>Bool.rec (.fresh m0 m1 :: ih) (Bool.rec (.fresh m0 m1 :: ih) ih (Nat.ble m1 n1)) (Nat.ble n0 m0)) f) l
def ifN {β:Type} (b:Bool) (d p:β):β:=Bool.rec d p b
abbrev R:=Option (O × S)
abbrev St:=Tr Blk->Nat->List Fp->R
def rowK {β:Type} (x:Blk):(List V->Nat->Nat->β)->β->β:=Blk.rec (motive:=fun _=>(List V->Nat->Nat->β)->β->β) (fun c t op=>fun f _=>f c t op) (fun _=>fun _ d=>d) x
def obK {β:Type} (x:Blk):(Ob->β)->β->β:=Blk.rec (motive:=fun _=>(Ob->β)->β->β) (fun _ _ _=>fun _ d=>d) (fun o=>fun f _=>f o) x
def opt {α β:Type} (o:Option α) (d:β) (f:α->β):β:=Option.rec d f o
def rRd (b off n:Nat) (ih:List V->St):St:=fun h nx lg=>opt (gp h (pa b)) none fun k=>rowK k (fun c _ _=>opt (tk n (dr off c)) none fun l=>ifN (Nat.blt 0 n) none (ih l h nx (.cell b off (Nat.add off n) false :: lg))) none
def rRd1 (b off:Nat) (ih:V->St):St:=fun h nx lg=>opt (gp h (pa b)) none fun k=>rowK k (fun c _ _=>opt (nth c off) none fun v=>ih v h nx (.cell b off (Nat.succ off) false :: lg)) none
def rWr (b off:Nat) (l:List V) (ih:St):St:=fun h nx lg=>opt (gp h (pa b)) none fun k=>rowK k (fun c t op=>opt (pl l off c) none fun c'=>pp h (some (.cells c' t op)) (pa b) fun h=>ifN (Nat.blt 0 (ln l 0)) none (ih h nx (.cell b off (Nat.add off (ln l 0)) true :: lg))) none
def rSz (b:Nat) (ih:Nat->Nat->Nat->St):St:=fun h nx lg=>opt (gp h (pa b)) none fun k=>rowK k (fun c t op=>eO (ln c 0) none fun n=>ih n t op h nx (.cell b n (Nat.succ n) false :: lg)) none
def rNew (x:Blk) (ih:Nat->St):St:=fun h nx lg=>eO nx none fun n=>opt (gp h (pa n)) (pp h (some x) (pa n) fun h=>ih n h (Nat.succ n) (.fresh n (Nat.succ n) :: lg)) fun _=>none
def rDel (b:Nat) (ih:St):St:=fun h nx lg=>opt (gp h (pa b)) none fun k=>rowK k (fun c _ _=>pp h none (pa b) fun h=>ih h nx (.cell b 0 (Nat.succ (ln c 0)) true :: lg)) none
def rGetO (b:Nat) (ih:Ob->St):St:=fun h nx lg=>opt (gp h (pa b)) none fun k=>obK k (fun o=>ih o h nx (.cell b 0 1 false :: lg)) none
def rSetO (b:Nat) (o:Ob) (ih:St):St:=fun h nx lg=>opt (gp h (pa b)) none fun k=>obK k (fun _=>pp h (some (.obj o)) (pa b) fun h=>ih h nx (.cell b 0 1 true :: lg)) none
def rSub1 (ih:V->List Fp->St) (nx:Nat) (lg:List Fp) (r:R):R:=match r with
 | some (o,s)=>match o with
  | .val v=>match s with
   | ⟨h',nx',lg'⟩=>ih v (.fresh nx nx' :: dY nx nx' lg') h' nx' (.fresh nx nx' :: ap (dY nx nx' lg') lg)
  | .panic _=>none
 | none=>none
def rSub (ihp:St) (ih:V->List Fp->St):St:=fun h nx lg=>rSub1 ih nx lg (ihp h nx [])
def run (p:AJ):St:=AJ.rec (fun o h nx lg=>some (o,⟨h,nx,lg⟩)) (fun _ _ _=>none) (fun b off n _ ih=>rRd b off n ih) (fun b off _ ih=>rRd1 b off ih) (fun b off l _ ih=>rWr b off l ih)
 (fun b _ ih=>rSz b ih) (fun c t op _ ih=>rNew (.cells c t op) ih) (fun b _ ih=>rDel b ih) (fun o _ ih=>rNew (.obj o) ih) (fun b _ ih=>rGetO b ih) (fun b o _ ih=>rSetO b o ih) (fun _ _ ihp ih=>rSub ihp ih) p
end
noncomputable section
def tys (P:Program):Tr TypeInfo:=uC P.types.toList 0 .leaf fun t=>t
def fns (P:Program):Tr Func:=uC P.funcs.toList 0 .leaf fun t=>t
def info (P:Program) (t:Nat):Option TypeInfo:=gp (tys P) (pa t)
def fnAt (P:Program) (f:Nat):Option Func:=gp (fns P) (pa f)
def und1 (P:Program) (i:TypeInfo):Option TypeDesc:=match i.desc with
 | .named _ u=>match info P u with
  | some j=>some j.desc
  | none=>none
 | d=>some d
def und (P:Program) (t:Nat):Option TypeDesc:=match info P t with
 | some i=>und1 P i
 | none=>none
def szT (P:Program) (t:Nat):Option Nat:=match info P t with
 | some i=>some i.size
 | none=>none
def shp (P:Program) (t:Nat):Option (Option Nat):=match und P t with
 | some (.struct _)=>match szT P t with
  | some n=>some (some n)
  | none=>none
 | some (.array _ _)=>match szT P t with
  | some n=>some (some n)
  | none=>none
 | some _=>some none
 | none=>none
def isC:V->Bool
 | .agg _=>false
 | .tup _=>false
 | _=>true
def iC:List V->Bool
 | []=>true
 | v :: l=>match isC v with
  | true=>iC l
  | false=>false
mutual
def ofC:Value->Option V
 | .int k n=>some (.int k n)
 | .bool b=>some (.bool b)
 | .string s=>some (.str s)
 | .pointer none=>some .nilp
 | .slice none 0 0=>some .nils
 | .map none=>some .nilm
 | .nilFunc=>some .nilf
 | .nilIface=>some .nili
 | .iface t v=>match ofC v with
  | some x=>some (.iface t x)
  | none=>none
 | .agg cs=>match ofA cs with
  | some l=>match iC l with
   | true=>some (.agg l)
   | false=>none
  | none=>none
 | .tuple cs=>match ofA cs with
  | some l=>some (.tup l)
  | none=>none
 | _=>none
def ofA:Array Value->Option (List V)
 | ⟨l⟩=>ofL l
def ofL:List Value->Option (List V)
 | []=>some []
 | v :: l=>match ofC v with
  | some x=>match ofL l with
   | some r=>some (x :: r)
   | none=>none
  | none=>none
end
def zer (P:Program) (t:Nat):Option V:=match info P t with
 | some i=>match i.zero with
  | some z=>ofC z
  | none=>none
 | none=>none
def eL:V:= .tup []
def vc0 (x:V):V->Option (List V):=V.rec (motive_1:=fun _=>V->Option (List V)) (motive_2:=fun _=>Unit) (fun _ _=>fun v=>some [v]) (fun _=>fun v=>some [v]) (fun _=>fun v=>some [v]) (fun _ _=>fun v=>some [v]) (fun v=>some [v]) (fun _ _ _ _=>fun v=>some [v]) (fun _ _ _ _=>fun v=>some [v]) (fun v=>some [v]) (fun _=>fun v=>some [v]) (fun v=>some [v]) (fun _ _ _ _ _=>fun v=>some [v]) (fun _=>fun v=>some [v]) (fun v=>some [v]) (fun _ _ _=>fun v=>some [v]) (fun v=>some [v]) (fun cs _=>fun _=>some cs) (fun _ _=>fun _=>none) () (fun _ _ _ _=>()) x
def vc (v:V):Option (List V):=vc0 v v
inductive Df where
 | fn (f:Nat) (args cap:List V)
 | col (r:Nat)
structure Ac where
 e:Tr V
 n:Nat
 ds:List Df
 ro:Option Nat
inductive X where
 | normal
 | exit (id:Nat)
 | ret
 | panic (ch:List PE)
abbrev KX:=X->Ac->AJ
abbrev Ex:=Code->Ac->KX->AJ
abbrev KV:=V->AJ
abbrev H:=Program->Ex->Tr V->KV->(List PE->AJ)->(Df->AJ)->AJ
def ev (x:Operand):Tr V->Option V:=Operand.rec (motive:=fun _=>Tr V->Option V) (fun t=>fun e=>gp e (pa t)) (fun c=>fun _=>ofC c) (fun _=>fun _=>none) (fun f=>fun _=>some (.fn f [] [])) x
def cR (x:Operand) (e:Tr V) (f:V->AJ):AJ:=Option.rec .fail f (ev x e)
def dX (x y:Operand) (e:Tr V) (f:V->V->AJ):AJ:=Option.rec .fail (fun v=>Option.rec .fail (f v) (ev y e)) (ev x e)
def eM (x y z:Operand) (e:Tr V) (f:V->V->V->AJ):AJ:=cR x e fun v=>dX y z e (f v)
def evs (l:List Operand) (e:Tr V):Option (List V):=List.rec (some []) (fun x _ ih=>Option.rec none (fun v=>Option.rec none (fun vs=>some (v :: vs)) ih) (ev x e)) l
def eX (l:List Operand) (e:Tr V) (f:List V->AJ):AJ:=opt (evs l e) .fail f
def evO (x:Option Operand) (e:Tr V):Option (Option V):=match x with
 | none=>some none
 | some x=>match ev x e with
  | some v=>some (some v)
  | none=>none
def yB (x:Option Operand) (e:Tr V) (f:Option V->AJ):AJ:=opt (evO x e) .fail f
def prt:List (Nat × Operand)->List Operand
 | []=>[]
 | (_,x) :: l=>x :: prt l
def dJ (b:Bool) (p:AJ):AJ:=Bool.rec .fail p b
def ife {β:Type} (b:Bool) (p q:β):β:=Bool.rec q p b
def oo {α:Type} (o:Option α) (f:α->AJ):AJ:=opt o .fail f
def vN (x:V):(Nat->Nat->AJ)->AJ:=V.rec (motive_1:=fun _=>(Nat->Nat->AJ)->AJ) (motive_2:=fun _=>Unit) (fun _ _=>fun _=> .fail) (fun _=>fun _=> .fail) (fun _=>fun _=> .fail) (fun b off=>fun f=>f b off) (fun _=> .fail) (fun _ _ _ _=>fun _=> .fail) (fun _ _ _ _=>fun _=> .fail) (fun _=> .fail) (fun _=>fun _=> .fail) (fun _=> .fail) (fun _ _ _ _ _=>fun _=> .fail) (fun _=>fun _=> .fail) (fun _=> .fail) (fun _ _ _=>fun _=> .fail) (fun _=> .fail) (fun _ _=>fun _=> .fail) (fun _ _=>fun _=> .fail) () (fun _ _ _ _=>()) x
def wO {β:Type} (x:V):(IntKind->Int->β)->β->β:=V.rec (motive_1:=fun _=>(IntKind->Int->β)->β->β) (motive_2:=fun _=>Unit) (fun k n=>fun f _=>f k n) (fun _=>fun _ d=>d) (fun _=>fun _ d=>d) (fun _ _=>fun _ d=>d) (fun _ d=>d) (fun _ _ _ _=>fun _ d=>d) (fun _ _ _ _=>fun _ d=>d) (fun _ d=>d) (fun _=>fun _ d=>d) (fun _ d=>d) (fun _ _ _ _ _=>fun _ d=>d) (fun _=>fun _ d=>d) (fun _ d=>d) (fun _ _ _=>fun _ d=>d) (fun _ d=>d) (fun _ _=>fun _ d=>d) (fun _ _=>fun _ d=>d) () (fun _ _ _ _=>()) x
def asBool {β:Type} (x:V):(Bool->β)->β->β:=V.rec (motive_1:=fun _=>(Bool->β)->β->β) (motive_2:=fun _=>Unit) (fun _ _=>fun _ d=>d) (fun b=>fun f _=>f b) (fun _=>fun _ d=>d) (fun _ _=>fun _ d=>d) (fun _ d=>d) (fun _ _ _ _=>fun _ d=>d) (fun _ _ _ _=>fun _ d=>d) (fun _ d=>d) (fun _=>fun _ d=>d) (fun _ d=>d) (fun _ _ _ _ _=>fun _ d=>d) (fun _=>fun _ d=>d) (fun _ d=>d) (fun _ _ _=>fun _ d=>d) (fun _ d=>d) (fun _ _=>fun _ d=>d) (fun _ _=>fun _ d=>d) () (fun _ _ _ _=>()) x
def asAgg {β:Type} (x:V):(List V->β)->β->β:=V.rec (motive_1:=fun _=>(List V->β)->β->β) (motive_2:=fun _=>Unit) (fun _ _=>fun _ d=>d) (fun _=>fun _ d=>d) (fun _=>fun _ d=>d) (fun _ _=>fun _ d=>d) (fun _ d=>d) (fun _ _ _ _=>fun _ d=>d) (fun _ _ _ _=>fun _ d=>d) (fun _ d=>d) (fun _=>fun _ d=>d) (fun _ d=>d) (fun _ _ _ _ _=>fun _ d=>d) (fun _=>fun _ d=>d) (fun _ d=>d) (fun _ _ _=>fun _ d=>d) (fun _ d=>d) (fun cs _=>fun f _=>f cs) (fun _ _=>fun _ d=>d) () (fun _ _ _ _=>()) x
def asTup (x:V):(List V->AJ)->AJ:=V.rec (motive_1:=fun _=>(List V->AJ)->AJ) (motive_2:=fun _=>Unit) (fun _ _=>fun _=> .fail) (fun _=>fun _=> .fail) (fun _=>fun _=> .fail) (fun _ _=>fun _=> .fail) (fun _=> .fail) (fun _ _ _ _=>fun _=> .fail) (fun _ _ _ _=>fun _=> .fail) (fun _=> .fail) (fun _=>fun _=> .fail) (fun _=> .fail) (fun _ _ _ _ _=>fun _=> .fail) (fun _=>fun _=> .fail) (fun _=> .fail) (fun _ _ _=>fun _=> .fail) (fun _=> .fail) (fun _ _=>fun _=> .fail) (fun cs _=>fun f=>f cs) () (fun _ _ _ _=>()) x
def wS {β:Type} (x:V):(ByteArray->β)->β->β:=V.rec (motive_1:=fun _=>(ByteArray->β)->β->β) (motive_2:=fun _=>Unit) (fun _ _=>fun _ d=>d) (fun _=>fun _ d=>d) (fun s=>fun f _=>f s) (fun _ _=>fun _ d=>d) (fun _ d=>d) (fun _ _ _ _=>fun _ d=>d) (fun _ _ _ _=>fun _ d=>d) (fun _ d=>d) (fun _=>fun _ d=>d) (fun _ d=>d) (fun _ _ _ _ _=>fun _ d=>d) (fun _=>fun _ d=>d) (fun _ d=>d) (fun _ _ _=>fun _ d=>d) (fun _ d=>d) (fun _ _=>fun _ d=>d) (fun _ _=>fun _ d=>d) () (fun _ _ _ _=>()) x
def asSl (x:V):(Nat->Nat->Nat->Nat->AJ)->(Nat->Nat->Nat->Nat->AJ)->AJ->AJ->AJ:=V.rec (motive_1:=fun _=>(Nat->Nat->Nat->Nat->AJ)->(Nat->Nat->Nat->Nat->AJ)->AJ->AJ->AJ) (motive_2:=fun _=>Unit) (fun _ _=>fun _ _ _ d=>d) (fun _=>fun _ _ _ d=>d) (fun _=>fun _ _ _ d=>d) (fun _ _=>fun _ _ _ d=>d) (fun _ _ _ d=>d) (fun b off len cap=>fun f _ _ _=>f b off len cap) (fun b off len es=>fun _ g _ _=>g b off len es) (fun _ _ n _=>n) (fun _=>fun _ _ _ d=>d) (fun _ _ _ d=>d) (fun _ _ _ _ _=>fun _ _ _ d=>d) (fun _=>fun _ _ _ d=>d) (fun _ _ _ d=>d) (fun _ _ _=>fun _ _ _ d=>d) (fun _ _ _ d=>d) (fun _ _=>fun _ _ _ d=>d) (fun _ _=>fun _ _ _ d=>d) () (fun _ _ _ _=>()) x
def asMap (x:V):(Nat->AJ)->AJ->AJ:=V.rec (motive_1:=fun _=>(Nat->AJ)->AJ->AJ) (motive_2:=fun _=>Unit) (fun _ _=>fun _ _=> .fail) (fun _=>fun _ _=> .fail) (fun _=>fun _ _=> .fail) (fun _ _=>fun _ _=> .fail) (fun _ _=> .fail) (fun _ _ _ _=>fun _ _=> .fail) (fun _ _ _ _=>fun _ _=> .fail) (fun _ _=> .fail) (fun b=>fun f _=>f b) (fun _ n=>n) (fun _ _ _ _ _=>fun _ _=> .fail) (fun _=>fun _ _=> .fail) (fun _ _=> .fail) (fun _ _ _=>fun _ _=> .fail) (fun _ _=> .fail) (fun _ _=>fun _ _=> .fail) (fun _ _=>fun _ _=> .fail) () (fun _ _ _ _=>()) x
def asIf (x:V):(Nat->V->AJ)->AJ->AJ:=V.rec (motive_1:=fun _=>(Nat->V->AJ)->AJ->AJ) (motive_2:=fun _=>Unit) (fun _ _=>fun _ _=> .fail) (fun _=>fun _ _=> .fail) (fun _=>fun _ _=> .fail) (fun _ _=>fun _ _=> .fail) (fun _ _=> .fail) (fun _ _ _ _=>fun _ _=> .fail) (fun _ _ _ _=>fun _ _=> .fail) (fun _ _=> .fail) (fun _=>fun _ _=> .fail) (fun _ _=> .fail) (fun _ _ _ _ _=>fun _ _=> .fail) (fun _=>fun _ _=> .fail) (fun _ _=> .fail) (fun t v _=>fun f _=>f t v) (fun _ n=>n) (fun _ _=>fun _ _=> .fail) (fun _ _=>fun _ _=> .fail) () (fun _ _ _ _=>()) x
def asFn (x:V):(Nat->List V->List V->AJ)->(Nat->AJ)->AJ:=V.rec (motive_1:=fun _=>(Nat->List V->List V->AJ)->(Nat->AJ)->AJ) (motive_2:=fun _=>Unit) (fun _ _=>fun _ _=> .fail) (fun _=>fun _ _=> .fail) (fun _=>fun _ _=> .fail) (fun _ _=>fun _ _=> .fail) (fun _ _=> .fail) (fun _ _ _ _=>fun _ _=> .fail) (fun _ _ _ _=>fun _ _=> .fail) (fun _ _=> .fail) (fun _=>fun _ _=> .fail) (fun _ _=> .fail) (fun g a c _ _=>fun f _=>f g a c) (fun l=>fun _ y=>y l) (fun _ _=> .fail) (fun _ _ _=>fun _ _=> .fail) (fun _ _=> .fail) (fun _ _=>fun _ _=> .fail) (fun _ _=>fun _ _=> .fail) () (fun _ _ _ _=>()) x
def noNil (x:V):AJ->AJ:=V.rec (motive_1:=fun _=>AJ->AJ) (motive_2:=fun _=>Unit) (fun _ _=>fun _=> .fail) (fun _=>fun _=> .fail) (fun _=>fun _=> .fail) (fun _ _=>fun k=>k) (fun _=> .fail) (fun _ _ _ _=>fun _=> .fail) (fun _ _ _ _=>fun _=> .fail) (fun _=> .fail) (fun _=>fun _=> .fail) (fun _=> .fail) (fun _ _ _ _ _=>fun k=>k) (fun _=>fun k=>k) (fun _=> .fail) (fun _ _ _=>fun _=> .fail) (fun _=> .fail) (fun _ _=>fun _=> .fail) (fun _ _=>fun _=> .fail) () (fun _ _ _ _=>()) x
def OPEN:Nat:=9223372036854775808
def natI (x:Int):Option Nat:=Int.rec (motive:=fun _=>Option Nat) (fun k=>some k) (fun _=>none) x
def qJ (v:V):Option Nat:=wO v (fun _ n=>natI n) none
def inR (x:Int):(Int->AJ)->AJ:=Int.rec (motive:=fun _=>(Int->AJ)->AJ) (fun n=>fun k=>eO n .fail fun n=>dJ (Nat.blt n OPEN) (k (.ofNat n))) (fun n=>fun k=>eO n .fail fun n=>dJ (Nat.blt n OPEN) (k (.negSucc n))) x
def ltI (i j:Int):Bool:=match i,j with
 | .ofNat a, .ofNat b=>Nat.blt a b
 | .negSucc _, .ofNat _=>true
 | .negSucc a, .negSucc b=>Nat.blt b a
 | .ofNat _, .negSucc _=>false
def eqI (i j:Int):Bool:=match i,j with
 | .ofNat a, .ofNat b=>Nat.beq a b
 | .negSucc a, .negSucc b=>Nat.beq a b
 | _,_=>false
mutual
def gv:V->Option Value
 | .int k n=>some (.int k n)
 | .bool b=>some (.bool b)
 | .str s=>some (.string s)
 | .nilp=>some (.pointer none)
 | .nils=>some (.slice none 0 0)
 | .nilm=>some (.map none)
 | .nilf=>some .nilFunc
 | .nili=>some .nilIface
 | .iface t v=>match gv v with
  | some x=>some (.iface t x)
  | none=>none
 | .agg cs=>match iC cs with
  | true=>match gvs cs with
   | some l=>some (.agg ⟨l⟩)
   | none=>none
  | false=>none
 | .tup cs=>match gvs cs with
  | some l=>some (.tuple ⟨l⟩)
  | none=>none
 | _=>none
def gvs:List V->Option (List Value)
 | []=>some []
 | v :: l=>match gv v with
  | some x=>match gvs l with
   | some r=>some (x :: r)
   | none=>none
  | none=>none
end
def aAr (P:Program) {α:Type}:Sem α->Option α
 | .pure a=>some a
 | .program k=>aAr P (k P)
 | .mark _ k=>aAr P k
 | _=>none
def gen (P:Program) (m:Sem Value) (k:V->AJ):AJ:=oo (aAr P m) fun v=>oo (ofC v) k
def gen1 (P:Program) (m:Value->Sem Value) (x:V) (k:V->AJ):AJ:=oo (gv x) fun a=>gen P (m a) k
def gen2 (P:Program) (m:Value->Value->Sem Value) (x y:V) (k:V->AJ):AJ:=oo (gv x) fun a=>oo (gv y) fun b=>gen P (m a b) k
def iT (n:Int):V:= .int .i64 n
def binI (x:BinOp):Int->Int->(V->AJ)->AJ->AJ:=BinOp.rec (motive:=fun _=>Int->Int->(V->AJ)->AJ->AJ) (fun i j k _=>inR (i+j) fun n=>k (.int .i64 n)) (fun i j k _=>inR (i - j) fun n=>k (.int .i64 n)) (fun i j k _=>inR (i*j) fun n=>k (.int .i64 n)) (fun _ _ _ d=>d) (fun _ _ _ d=>d) (fun _ _ _ d=>d) (fun _ _ _ d=>d) (fun _ _ _ d=>d) (fun _ _ _ d=>d) (fun _ _ _ d=>d) (fun _ _ _ d=>d) (fun i j k _=>k (.bool (eqI i j))) (fun i j k _=>k (.bool (Bool.not (eqI i j)))) (fun i j k _=>k (.bool (ltI i j))) (fun i j k _=>k (.bool (Bool.not (ltI j i)))) (fun i j k _=>k (.bool (ltI j i))) (fun i j k _=>k (.bool (Bool.not (ltI i j)))) x
def eqN1:V->V->Option Bool
 | .nilp, .ptr _ _=>some false
 | .ptr _ _, .nilp=>some false
 | .ptr b o, .ptr c q=>match Nat.beq b c with
  | true=>some (Nat.beq o q)
  | false=>none
 | _,_=>none
def eqN2:V->V->Option Bool
 | .nils, .sl _ _ _ _=>some false
 | .nils, .so _ _ _ _=>some false
 | .sl _ _ _ _, .nils=>some false
 | .so _ _ _ _, .nils=>some false
 | _,_=>none
def eqN3:V->V->Option Bool
 | .nilm, .map _=>some false
 | .map _, .nilm=>some false
 | _,_=>none
def eqN4:V->V->Option Bool
 | .nilf, .fn _ _ _=>some false
 | .fn _ _ _, .nilf=>some false
 | _,_=>none
def eqN5:V->V->Option Bool
 | .nili, .iface _ _=>some false
 | .iface _ _, .nili=>some false
 | _,_=>none
def eqN (P:Program) (T:Nat) (a b:V):Option Bool:=match und P T with
 | some (.pointer el)=>match szT P el with
  | some (_+1)=>eqN1 a b
  | _=>none
 | some (.slice _)=>eqN2 a b
 | some (.map _ _)=>eqN3 a b
 | some (.func _ _ _)=>eqN4 a b
 | some (.interface _)=>eqN5 a b
 | _=>none
def eqK (x:BinOp):Bool->(V->AJ)->AJ:=BinOp.rec (motive:=fun _=>Bool->(V->AJ)->AJ) (fun _ _=> .fail) (fun _ _=> .fail) (fun _ _=> .fail) (fun _ _=> .fail) (fun _ _=> .fail) (fun _ _=> .fail) (fun _ _=> .fail) (fun _ _=> .fail) (fun _ _=> .fail) (fun _ _=> .fail) (fun _ _=> .fail) (fun r k=>k (.bool r)) (fun r k=>k (.bool (Bool.not r))) (fun _ _=> .fail) (fun _ _=> .fail) (fun _ _=> .fail) (fun _ _=> .fail) x
def binG (P:Program) (op:BinOp) (T:Nat) (x y:Operand) (a b:V) (k:V->AJ):AJ:=opt (eqN P T a b) (gen2 P (fun a b=>do eqGuard op T x y a b;binOp op T a b) a b k) fun r=>eqK op r k
def isI64 (k:IntKind):Bool:=match k with
 | .i64=>true
 | _=>false
def binB (op:BinOp) (u v:V) (k:V->AJ) (d:AJ):AJ:=wO u (fun ku i=>wO v (fun kv j=>ife (isI64 ku) (ife (isI64 kv) (binI op i j k d) d) d) d) d
def hBin (op:BinOp) (T:Nat) (x y:Operand):H:=fun P _ e k _ _=>dX x y e fun u v=>binB op u v k (binG P op T x y u v k)
def oY (x:Operand):H:=fun _ _ e k _ _=>cR x e k
def yA (c x y:Operand):H:=fun _ _ e k _ _=>eM c x y e fun c x y=>asBool c (fun b=>ife b (k x) (k y)) .fail
def loadS (s:Option Nat) (b off:Nat) (k:V->AJ):AJ:=opt s (.rd1 b off k) fun n=>ife (Nat.beq n 0) (k (.agg [])) (.rd b off n fun l=>k (.agg l))
def zD (t:Nat) (x:Operand):H:=fun P _ e k _ _=>cR x e fun v=>oo (shp P t) fun s=>vN v fun b off=>loadS s b off k
def wU (t:Nat) (x y:Operand):H:=fun P _ e k _ _=>dX x y e fun p v=>oo (szT P t) fun n=>vN p fun b off=>oo (vc v) fun c=>dJ (Nat.beq (ln c 0) n) (ife (Nat.beq n 0) (k eL) (.wr b off c (k eL)))
def zO (t:Nat):H:=fun P _ e k _ _=>oo (zer P t) fun z=>oo (vc z) fun c=> .new c t 0 fun b=>k (.ptr b 0)
def hBox (t:Nat) (x:Operand):H:=fun _ _ e k _ _=>cR x e fun v=>oo (vc v) fun c=> .new c t 0 fun b=>k (.ptr b 0)
def fldOf (P:Program) (t f:Nat):Option (Nat × Nat):=match und P t with
 | some (.struct fs)=>match nth fs.toList f with
  | some fd=>some (fd.offset,fd.type)
  | none=>none
 | _=>none
def fldA (P:Program) (t f:Nat):Option Nat:=match fldOf P t f with
 | some (o,ft)=>match szT P ft with
  | some n=>match Nat.blt 0 n with
   | true=>some o
   | false=>none
  | none=>none
 | none=>none
def yL (t:Nat) (x:Operand) (f:Nat):H:=fun P _ e k _ _=>cR x e fun v=>oo (fldA P t f) fun o=>vN v fun b off=>eO (Nat.add off o) .fail fun n=>k (.ptr b n)
def partV (s:Option Nat) (off:Nat) (cs:List V) (k:V->AJ):AJ:=opt s (oo (nth cs off) k) fun n=>oo (tk n (dr off cs)) fun l=>k (.agg l)
def fldV (P:Program) (t f:Nat):Option (Nat × Option Nat):=match fldOf P t f with
 | some (o,ft)=>match shp P ft with
  | some s=>some (o,s)
  | none=>none
 | none=>none
def yU (t:Nat) (x:Operand) (f:Nat):H:=fun P _ e k _ _=>cR x e fun v=>oo (fldV P t f) fun q=>asAgg v (fun cs=>partV q.2 q.1 cs k) .fail
def elOf (P:Program) (t:Nat):Option Nat:=match und P t with
 | some (.slice el)=>some el
 | _=>none
def arOf (P:Program) (t:Nat):Option (Nat × Nat):=match und P t with
 | some (.array n el)=>some (n,el)
 | _=>none
def ixOf (P:Program) (t:Nat):Option (Nat × Option Nat):=match und P t with
 | some (.slice el)=>match szT P el with
  | some es=>some (es,none)
  | none=>none
 | some (.array n el)=>match szT P el with
  | some es=>some (es,some n)
  | none=>none
 | _=>none
def at' (b off es len:Nat) (i:V) (k:V->AJ):AJ:=oo (qJ i) fun j=>dJ (Nat.blt j len) (eO (Nat.add off (Nat.mul j es)) .fail fun n=>k (.ptr b n))
def yH (t:Nat) (x i:Operand):H:=fun P _ e k _ _=>dX x i e fun v i=>oo (ixOf P t) fun q=>
 opt q.2 (asSl v (fun b off len _=>at' b off q.1 len i k) (fun b off len _=>at' b off q.1 len i k) .fail .fail) fun n=>vN v fun b off=>at' b off q.1 n i k
def hIdx (t:Nat) (x i:Operand):H:=fun P _ e k _ _=>dX x i e fun v i=>asAgg v (fun cs=>oo (arOf P t) fun q=>oo (szT P q.2) fun es=>oo (shp P q.2) fun s=>oo (qJ i) fun j=>dJ (Nat.blt j q.1) (partV s (Nat.mul j es) cs k))
 (gen2 P (Instr.index t) v i k)
def hUn (op:UnOp) (_:Nat) (x:Operand):H:=fun P _ e k _ _=>cR x e fun v=>match op with
 | .not=>asBool v (fun b=>k (.bool (Bool.not b))) .fail
 | op=>gen1 P (Op.unary op) v k
def hNil (x:Operand):H:=fun _ _ e k _ _=>cR x e fun v=>noNil v (k v)
def hExt (x:Operand) (i:Nat):H:=fun _ _ e k _ _=>cR x e fun v=>asTup v fun l=>oo (nth l i) k
def noIf (P:Program) (t:Nat):Bool:=match und P t with
 | none=>false
 | some (.interface _)=>false
 | some _=>true
def hMkI (t:Nat) (x:Operand):H:=fun P _ e k _ _=>cR x e fun v=>dJ (noIf P t) (k (.iface t v))
def fnOf (x:Fn):Option Nat:=Fn.rec (motive:=fun _=>Option Nat) (fun g=>some g) (fun _=>none) (fun _ _=>none) (fun _ _ _ _=>none) (fun _=>none) x
def hMkF (fn:Fn) (f c:Array Operand):H:=fun _ _ e k _ _=>oo (fnOf fn) fun g=>eX f.toList e fun f=>eX c.toList e fun c=>k (.fn g f c)
def okT (ok b:Bool) (v:V):V:=match ok with
 | true=> .tup [v, .bool b]
 | false=>v
def hTa (x:Operand) (_ T:Nat) (ok:Bool):H:=fun P _ e k _ _=>cR x e fun v=>dJ (noIf P T) (asIf v (fun t w=>ife (Nat.beq t T) (k (okT ok true w)) (dJ ok (oo (zer P T) fun z=>k (.tup [z, .bool false]))))
 (dJ ok (oo (zer P T) fun z=>k (.tup [z, .bool false]))))
def plc (P:Program) (fs:List Field) (i:Nat):Option (Nat × Nat):=match nth fs i with
 | some f=>match szT P f.type with
  | some n=>some (f.offset,n)
  | none=>none
 | none=>none
def vB (pc:Nat->Option (Nat × Nat)) (ps:List (Nat × Operand)):List V->List V->Option (List V):=List.rec (fun _ c=>some c) (fun p _ ih vs c=>List.rec none (fun v r _=>Option.rec none (fun q=>Option.rec none (fun u=>Bool.rec none (Option.rec none (fun c'=>ih r c') (pl u q.1 c)) (Nat.beq (ln u 0) q.2)) (vc v)) (pc p.1)) vs) ps
def szs (P:Program):List Field->Bool
 | []=>true
 | f :: r=>match szT P f.type with
  | some _=>szs P r
  | none=>false
def plcOf (P:Program) (t:Nat):Option (Nat->Option (Nat × Nat)):=match und P t with
 | some (.struct fs)=>match szs P fs.toList with
  | true=>some (plc P fs.toList)
  | false=>none
 | some (.array _ el)=>match szT P el with
  | some es=>some fun i=>some (Nat.mul i es,es)
  | none=>none
 | _=>none
def yY (t:Nat) (ps:Array (Nat × Operand)):H:=fun P _ e k _ _=>eX (prt ps.toList) e fun vs=>oo (zer P t) fun z=>oo (plcOf P t) fun pc=>oo (asAgg z some none) fun z=>oo (vB pc ps.toList vs z) fun c=>k (.agg c)
def lim:Nat:=1048576
def uE (P:Program) (t:Nat):Option (Nat × Nat × List V):=match elOf P t with
 | some el=>match info P el with
  | some i=>match zer P el with
   | some z=>match vc z with
    | some c=>match Bool.and (Nat.beq (ln c 0) i.size) (Bool.and (Nat.ble i.size lim) (Nat.ble i.bytes lim))with
     | true=>some (el,i.size,c)
     | false=>none
    | none=>none
   | none=>none
  | none=>none
 | none=>none
def vW (t len:Nat) (ps:Array (Nat × Operand)):H:=fun P _ e k _ _=>eX (prt ps.toList) e fun vs=>oo (uE P t) fun q=>
 dJ (Nat.ble (Nat.mul len q.2.1) lim) (oo (vB (fun i=>some (Nat.mul i q.2.1,q.2.1)) ps.toList vs (rep q.2.2 len)) fun c=> .new c q.1 0 fun b=>k (.sl b 0 len len))
def hMks (t:Nat) (x y:Operand):H:=fun P _ e k _ _=>dX x y e fun l c=>oo (uE P t) fun q=>oo (qJ l) fun l=>oo (qJ c) fun c=>
 dJ (Bool.and (Nat.ble l c) (Nat.ble c lim)) (.new (rep q.2.2 c) q.1 0 fun b=>k (.sl b 0 l c))
def isStr (P:Program) (t:Nat):Bool:=match und P t with
 | some .string=>true
 | _=>false
def ofB (x:Option V) (d:Nat) (f:Nat->AJ):AJ:=opt x (f d) fun v=>oo (qJ v) f
def slN (es b off cap l h m:Nat) (k:V->AJ):AJ:=dJ (Bool.and (Nat.ble l h) (Bool.and (Nat.ble h m) (Nat.ble m cap))) (ife (Nat.beq m l) (k (.sl b off (Nat.sub h l) (Nat.sub m l)))
 (eO (Nat.add off (Nat.mul l es)) .fail fun o=>eO (Nat.sub h l) .fail fun n=>eO (Nat.sub m l) .fail fun c=>k (.sl b o n c)))
def slO (es b off len l h:Nat) (k:V->AJ):AJ:=dJ (Bool.and (Nat.blt 0 es) (Bool.and (Nat.ble l h) (Bool.and (Nat.ble h len) (Bool.or (Nat.beq l 0) (Nat.blt l len)))))
 (eO (Nat.add off (Nat.mul l es)) .fail fun o=>eO (Nat.sub h l) .fail fun n=>k (.so b o n es))
def soOk (es b off len es0:Nat) (p:AJ):AJ:=dJ (Bool.and (Nat.blt 0 es) (Nat.beq es0 es)) (.sz b fun cl _ op=>dJ (Bool.and (Nat.beq op es) (Nat.ble (Nat.add off (Nat.mul len es)) cl)) p)
def hiOk (hi mx:Option V):Bool:=opt mx true fun _=>opt hi false fun _=>true
def vZ (t:Nat) (x:Operand) (lo hi mx:Option Operand):H:=fun P _ e k _ _=>cR x e fun v=>yB lo e fun lo=>yB hi e fun hi=>yB mx e fun mx=>dJ (hiOk hi mx) (match elOf P t with
 | some el=>oo (szT P el) fun es=>asSl v (fun b off len cap=>ofB lo 0 fun l=>ofB hi len fun h=>ofB mx cap fun m=>slN es b off cap l h m k)
  (fun b off len es0=>soOk es b off len es0 (ofB lo 0 fun l=>ofB hi len fun h=>opt mx (slO es b off len l h k) fun _=>ofB mx 0 fun m=>slN es b off len l h m k))
  (ofB lo 0 fun l=>ofB hi 0 fun h=>ofB mx 0 fun m=>dJ (Nat.beq (Nat.add l (Nat.add h m)) 0) (k .nils)) .fail
 | none=>dJ (isStr P t) (opt mx (wS v (fun s=>ofB lo 0 fun l=>ofB hi s.size fun h=>dJ (Bool.and (Nat.ble l h) (Nat.ble h s.size)) (k (.str (s.extract l h)))) .fail) fun _=> .fail))
def aAi (s:ByteArray):List V:=s.data.toList.map fun b=> .int .u8 (Int.ofNat b.toNat)
def rdN (b off n:Nat) (k:List V->AJ):AJ:=ife (Nat.beq n 0) (k []) (.rd b off n k)
def cellsOf (es:Nat) (v:V) (f:Nat->List V->AJ):AJ:=asSl v (fun b off len _=>rdN b off (Nat.mul len es) (f len)) (fun b off len _=>rdN b off (Nat.mul len es) (f len)) (f 0 [])
 (wS v (fun s=>dJ (Nat.beq es 1) (f s.size (aAi s))) .fail)
def grow (el es n:Nat) (c:List V) (k:V->AJ):AJ:=dJ (Nat.ble n lim) (.new c el es fun b=>k (.so b 0 n es))
def appO (el es b off len n:Nat) (new:List V) (k:V->AJ):AJ:= .sz b fun cl t op=>dJ (Bool.and (Nat.beq op es) (Nat.beq t el)) (eO (Nat.add len n) .fail fun ln'=>ife (Nat.ble (Nat.add off (Nat.mul ln' es)) cl)
 (.wr b (Nat.add off (Nat.mul len es)) new (k (.so b off ln' es)))
 (dJ (Bool.and (Nat.beq off 0) (Nat.beq (Nat.mul len es) cl)) (rdN b 0 (Nat.mul len es) fun old=> .del b (grow el es ln' (ap old new) k))))
def appL (el es:Nat) (s:V) (n:Nat) (new:List V) (k:V->AJ):AJ:=ife (Nat.beq n 0) (asSl s (fun _ _ len cap=>dJ (Nat.ble len cap) (k s)) (fun b off len es0=>soOk es b off len es0 (k s)) (k s) .fail)
 (asSl s (fun b off len cap=>eO (Nat.add len n) .fail fun ln'=>ife (Nat.ble ln' cap) (.wr b (Nat.add off (Nat.mul len es)) new (k (.sl b off ln' cap))) (rdN b off (Nat.mul len es) fun old=>grow el es ln' (ap old new) k))
  (fun b off len es0=>dJ (Nat.beq es0 es) (appO el es b off len n new k)) (grow el es n new k) .fail)
def isInt (P:Program) (t:Nat):Bool:=match und P t with
 | some (.int _)=>true
 | none=>true
 | _=>false
def wB (c:Call):H:=fun P _ e k _ _=>eX c.args.toList e fun vs=>match c.argTypes.toList,vs with
 | T :: U :: _,s :: x :: _=>oo (uE P T) fun q=>dJ (Bool.and (Nat.blt 0 q.2.1) (Bool.not (isInt P U))) (cellsOf q.2.1 x fun n new=>appL q.1 q.2.1 s n new k)
 | _,_=> .fail
def mapK (x:Ob):(List Ent->Nat->AJ)->AJ:=Ob.rec (motive:=fun _=>(List Ent->Nat->AJ)->AJ) (fun es c=>fun f=>f es c) (fun _ _ _ _ _ _ _ _ _=>fun _=> .fail) (fun _=>fun _=> .fail) x
def hLen (c:Call):H:=fun P _ e k _ _=>eX c.args.toList e fun vs=>match c.argTypes.toList,vs with
 | T :: _,v :: _=>match und P T with
  | some (.slice _)=>asSl v (fun _ _ len _=>k (iT (.ofNat len))) (fun _ _ len _=>k (iT (.ofNat len))) (k (iT (.ofNat 0))) .fail
  | some .string=>wS v (fun s=>k (iT (.ofNat s.size))) .fail
  | some (.map _ _)=>asMap v (fun b=> .getO b fun o=>mapK o (fun es _=>k (iT (.ofNat (ln es 0))))) (k (iT (.ofNat 0)))
  | some (.array n _)=>k (iT (.ofNat n))
  | _=> .fail
 | _,_=> .fail
def hMm (least:Bool) (c:Call):H:=fun _ _ e k _ _=>eX c.args.toList e fun vs=>match vs with
 | [.int .i64 i, .int .i64 j]=>ife least (ife (ltI j i) (k (iT j)) (k (iT i))) (ife (ltI i j) (k (iT j)) (k (iT i)))
 | _=> .fail
def xD (c:Call):H:=fun P _ e k _ _=>eX c.args.toList e fun vs=>match c.argTypes.toList,vs with
 | T :: _,v :: _=>oo (uE P T) fun q=>asSl v (fun b off len _=>ife (Nat.beq len 0) (k eL) (.wr b off (rep q.2.2 len) (k eL))) (fun b off len _=>ife (Nat.beq len 0) (k eL) (.wr b off (rep q.2.2 len) (k eL))) (k eL) .fail
 | _,_=> .fail
def isKey (P:Program) (t:Nat):Option Bool:=match und P t with
 | some (.int _)=>some false
 | some .string=>some true
 | _=>none
def sK:V->V->Option Bool
 | .int .i64 a, .int .i64 b=>some (eqI a b)
 | .int .u8 a, .int .u8 b=>some (eqI a b)
 | .str a, .str b=>some (a==b)
 | _,_=>none
def keyOk (t:Bool) (v:V):Bool:=wO v (fun _ _=>Bool.not t) (wS v (fun _=>t) false)
def wL (x:V):List Ent->Option (Option V)
 | []=>some none
 | e :: es=>match sK x e.key with
  | some true=>some (some e.val)
  | some false=>wL x es
  | none=>none
def mapOf (P:Program) (t:Nat):Option (Nat × Bool):=match und P t with
 | some (.map kt el)=>match isKey P kt with
  | some b=>some (el,b)
  | none=>none
 | _=>none
def vX (t:Nat) (x y:Operand) (ok:Bool):H:=fun P _ e k _ _=>dX x y e fun m x=>oo (mapOf P t) fun m'=>oo (zer P m'.1) fun z=>dJ (keyOk m'.2 x) (asMap m
 (fun b=> .getO b fun o=>mapK o fun es _=>oo (wL x es) fun r=>opt r (k (okT ok false z)) fun v=>k (okT ok true v)) (k (okT ok false z)))
def setE (x v:V) (c:Nat):List Ent->Option (List Ent × Nat)
 | []=>some ([⟨x,v,c⟩],Nat.succ c)
 | e :: es=>match sK x e.key with
  | some true=>some (⟨x,v,e.born⟩ :: es,c)
  | some false=>match setE x v c es with
   | some (l,c')=>some (e :: l,c')
   | none=>none
  | none=>none
def hUpd (t:Nat) (x y z:Operand):H:=fun P _ e k _ _=>eM x y z e fun m x v=>oo (mapOf P t) fun m'=>dJ (keyOk m'.2 x) (asMap m
 (fun b=> .getO b fun o=>mapK o fun es c=>oo (setE x v c es) fun q=> .setO b (.map q.1 q.2) (k eL)) .fail)
def hMapN (_:Nat) (r:Option Operand):H:=fun _ _ _ k _ _=>opt r (.newO (.map [] 0) fun b=>k (.map b)) fun _=> .fail
def yR (s t:Nat) (x:Operand):H:=fun P _ e k _ _=>cR x e fun v=>gen1 P (convert s t) v k
def dN:H:=fun _ _ _ _ _ _=> .fail
def opB (x:Builtin):Call->H:=Builtin.rec (motive:=fun _=>Call->H) (wB) (fun _=>dN) (xD) (fun _=>dN) (fun _=>dN) (fun _=>dN) (fun _=>dN) (fun _=>dN) (hLen) (fun _=>dN) (hMm false) (hMm true) (fun _=>dN) (fun _=>dN) (fun _=>dN) (fun _=>dN) (fun _=>dN) (fun _=>dN) (fun _=>dN) (fun _=>dN) (fun _=>dN) (fun _=>dN) (fun _=>dN) (fun _=>dN) (fun _=>dN) (fun _=>dN) x
end
noncomputable section
def insE (d:Option Nat) (v:V) (e:Tr V) (n:Nat) (k:Tr V->AJ):AJ:=Option.rec (k e) (fun t=>Bool.rec .fail (pp e (some v) (pa t) k) (Nat.blt t n)) d
def acK {β:Type} (a:Ac) (f:Tr V->Nat->List Df->Option Nat->β):β:=Ac.rec f a
def insK (d:Option Nat) (a:Ac) (v:V) (k:Ac->AJ):AJ:=acK a fun e n ds ro=>insE d v e n fun e=>k ⟨e,n,ds,ro⟩
inductive FM where
 | ret
 | pan (ch:List PE)
def wN:FM->FM
 | .pan (⟨_,true⟩ :: _)=> .ret
 | u=>u
def aBW (u:FM) (ch:List PE):FM:=match u with
 | .pan old=> .pan (ap ch old)
 | .ret=> .pan ch
def rcv:FM->V × FM
 | .pan (⟨v,false⟩ :: dY)=>(v, .pan (⟨v,true⟩ :: dY))
 | u=>(.nili,u)
def bod (P:Program) (f:Nat):Option (Func × Code):=match fnAt P f with
 | none=>none
 | some fn=>match fn.body with
  | none=>none
  | some c=>match fn.name== "runtime.NumGoroutine" with
   | true=>none
   | false=>some (fn,c)
def aB6 (l:List V):Nat->Tr V->(Tr V->AJ)->AJ:=List.rec (fun _ e k=>k e) (fun v _ ih n e k=>pp e (some v) (pa n) fun e=>ih (Nat.succ n) e k) l
def res1 (P:Program) (e:Tr V) (r:ResultVar) (k:V->AJ):AJ:=match r with
 | .tmp t=>oo (gp e (pa t)) k
 | .cell t T=>oo (gp e (pa t)) fun v=>oo (shp P T) fun s=>vN v fun b off=>loadS s b off k
def resA (P:Program) (e:Tr V) (rs:List ResultVar):(List V->AJ)->AJ:=List.rec (fun k=>k []) (fun r _ ih k=>res1 P e r fun v=>ih fun vs=>k (v :: vs)) rs
def qM (l:List V):V:=match l with
 | [v]=>v
 | l=> .tup l
def after (x:X) (ds:List Df) (u:FM):Option FM:=match ds with
 | _ :: _=>none
 | []=>match x with
  | .normal=>some (wN u)
  | .ret=>some (wN u)
  | .panic ch=>some (aBW u ch)
  | .exit _=>none
def pW (o:Oper):Option Nat:=match o.guard with
 | some _=>none
 | none=>match o.op with
  | .call c=>match c.callee with
   | .builtin .recover=>match c.args.toList with
    | []=>o.dst
    | _=>none
   | _=>none
  | _=>none
def wX (d:Nat) (o:Oper):Option Nat:=match o.guard with
 | some _=>none
 | none=>match o.op with
  | .assign (.tmp t)=>match Nat.beq t d with
   | true=>o.dst
   | false=>none
  | _=>none
def recB (c:Code):Option (Nat × Option Nat × Code):=match c with
 | .seq (.region _ ops false) y=>match ops.toList with
  | [o,p]=>match pW o with
   | some d=>match wX d p with
    | some e=>some (d,some e,y)
    | none=>none
   | none=>none
  | [o]=>match pW o with
   | some d=>some (d,none,y)
   | none=>none
  | _=>none
 | _=>none
def aCN (fn:Func) (args:List V) (k:Ac->AJ):AJ:=dJ (Nat.ble (ln args 0) fn.ntmps) (aB6 args 0 .leaf fun e=>k ⟨e,fn.ntmps,[],none⟩)
def noRes (l:List ResultVar):Bool:=match l with
 | []=>true
 | _ :: _=>false
def defer1 (P:Program) (ex:Ex) (d:Df) (u:FM) (k:FM->AJ):AJ:=match d with
 | .col r=> .getO r fun o=>match o with
  | .dfr true=> .setO r (.dfr false) (k u)
  | _=> .fail
 | .fn f args cap=>oo (bod P f) fun q=>dJ (noRes q.1.results.toList) (aCN q.1 (ap args cap) fun a=>match recB q.2 with
  | some (d,e,y)=>insK (some d) a (rcv u).1 fun a=>insK e a (rcv u).1 fun a=>ex y a fun x a=>oo (after x a.ds (rcv u).2) k
  | none=>ex q.2 a fun x a=>oo (after x a.ds u) k)
def gone (P:Program) (fn:Func) (e:Tr V) (u:FM) (k:O->AJ):AJ:=match u with
 | .ret=>resA P e fn.results.toList fun l=>k (.val (qM l))
 | .pan ch=>k (.panic ch)
def kT (P:Program) (ex:Ex) (fn:Func) (e:Tr V) (k:O->AJ) (ds:List Df):FM->AJ:=List.rec (fun u=>gone P fn e u k) (fun d _ ih u=>defer1 P ex d u ih) ds
def left (x:X):Option FM:=X.rec (motive:=fun _=>Option FM) (some .ret) (fun _=>none) (some .ret) (fun ch=>some (.pan ch)) x
def left1 (P:Program) (ex:Ex) (fn:Func) (k:O->AJ) (x:X) (a:Ac):AJ:=oo (left x) fun u=>acK a fun e _ ds _=>kT P ex fn e k ds u
def uK (P:Program) (ex:Ex) (f:Nat) (args:List V) (k:O->AJ):AJ:=oo (bod P f) fun q=>aCN q.1 args fun a=>ex q.2 a (left1 P ex q.1 k)
def pendOf (x:X) (ds:List Df):Option (Option Code):=match ds with
 | _ :: _=>none
 | []=>match x with
  | .normal=>some none
  | .ret=>some (some .ret)
  | .exit id=>some (some (.exit id))
  | .panic _=>none
def putPs (ts:List Nat) (n:Nat):List V->Tr V->(Tr V->AJ)->AJ:=List.rec (fun vs e k=>List.rec (k e) (fun _ _ _=> .fail) vs) (fun t _ ih vs e k=>List.rec .fail (fun v r _=>dJ (Nat.blt t n) (pp e (some v) (pa t) fun e=>ih r e k)) vs) ts
def stOf (j:Option Code):LoopState:=match j with
 | none=> .ready
 | some _=> .done
def aBu (ex:Ex) (l:Nat) (args:List V) (k:O->AJ):AJ:= .getO l fun o=>match o with
 | .loop .ready p f e n ps sg bd d=>putPs ps n args e fun e'=>ex sg ⟨e',n,[],some l⟩ fun x a=>match x with
  | .normal=> .getO l fun o=>match o with
   | .loop .ready p f e n ps sg' bd' d=> .setO l (.loop .busy p f e n ps sg' bd' d) (ex bd a fun x a=>oo (pendOf x a.ds) fun j=> .getO l fun o=>match o with
    | .loop _ _ f e n ps sg bd d=> .setO l (.loop (stOf j) j f e n ps sg bd d) (k (.val (.bool j.isNone)))
    | _=> .fail)
   | _=> .fail
  | _=> .fail
 | _=> .fail
def invokeA (P:Program) (ex:Ex) (args:List V) (k:O->AJ) (v:V):AJ:=asFn v (fun f first cap=>uK P ex f (ap first (ap args cap)) k) (fun l=>aBu ex l args k)
def aAo (P:Program) (t:Nat) (name:String):Option Nat:=match info P t with
 | some i=>match i.methods.find? (·.name==name)with
  | some m=>match m.path.toList with
   | []=>match m.func with
    | some (f,p)=>match und P t with
     | some (.pointer _)=>match p with
      | true=>some f
      | false=>none
     | some _=>match p with
      | true=>none
      | false=>some f
     | none=>none
    | none=>none
   | _=>none
  | none=>none
 | none=>none
def oOut (x:O):KV->(List PE->AJ)->AJ:=O.rec (motive:=fun _=>KV->(List PE->AJ)->AJ) (fun v=>fun k _=>k v) (fun ch=>fun _ kp=>kp ch) x
def aAp (f:Operand) (c:Call):H:=fun P ex e k kp _=>cR f e fun fv=>eX c.args.toList e fun args=>invokeA P ex args (fun o=>oOut o k kp) fv
def hInv (x:Operand) (name:String) (c:Call):H:=fun P ex e k kp _=>cR x e fun v=>eX c.args.toList e fun args=>asIf v (fun t w=>oo (aAo P t name) fun f=>uK P ex f (w :: args) fun o=>oOut o k kp) .fail
def hCal (x:Callee):Call->H:=Callee.rec (motive:=fun _=>Call->H) (fun f=>aAp f) (fun x name=>hInv x name) (fun b=>opB b) x
def hCall (c:Call):H:=hCal c.callee c
def valOf (x:Callee):Option Operand:=Callee.rec (motive:=fun _=>Option Operand) (fun f=>some f) (fun _ _=>none) (fun _=>none) x
def uF (c:Call):H:=fun _ _ e _ _ kd=>oo (valOf c.callee) fun f=>cR f e fun fv=>eX c.args.toList e fun args=>asFn fv (fun g first cap=>kd (.fn g (ap first args) cap)) fun _=> .fail
def aAQ (x:Operand):H:=fun _ _ e _ kp _=>cR x e fun v=>asIf v (fun t w=>kp [⟨.iface t w,false⟩]) .fail
def opH (x:Op):H:=Op.rec (motive:=fun _=>H) (fun x=>oY x) (fun x=>oY x) (fun c x y=>yA c x y) (fun t=>zO t) (fun t x=>hBox t x) (fun t ps=>yY t ps) (fun t n ps=>vW t n ps) (fun t x y z=>hUpd t x y z) (fun t x=>zD t x) (fun t x y=>wU t x y) (fun _=>dN) (fun _=>dN) (fun x=>hNil x) (fun op t x y _=>hBin op t x y) (fun op t x=>hUn op t x) (fun s t x=>yR s t x) (fun _ _=>dN) (fun t x=>hMkI t x) (fun fn f c=>hMkF fn f c) (fun t r=>hMapN t r) (fun _ _=>dN) (fun t x y=>hMks t x y) (fun t x lo hi mx=>vZ t x lo hi mx) (fun t x f=>yL t x f) (fun t x f=>yU t x f) (fun t x i=>yH t x i) (fun t x i=>hIdx t x i) (fun t x y ok=>vX t x y ok) (fun t x y z=>hUpd t x y z) (fun _ _ _=>dN) (fun _ _ _ _=>dN) (fun _ _=>dN) (fun _ _=>dN) (fun _=>dN) (fun x t T ok=>hTa x t T ok) (fun x i=>hExt x i) (fun c=>hCall c) (fun _=>dN) (fun c=>uF c) (fun x=>aAQ x) (fun _ _=>dN) (fun _ _ _=>dN) (fun _ _=>dN) x
def jZ (ops:List Oper) (j:Nat):Option Nat:=opt (nth ops j) none fun o=>o.dst
def aCA (ops:List Oper) (j:Nat) (w:Bool) (e:Tr V) (yes no:AJ):AJ:=opt (jZ ops j) no fun d=>oo (gp e (pa d)) fun v=>asBool v (fun b=>ife b (ife w yes no) (ife w no yes)) no
def fin (d:Option Nat) (e:Tr V) (n:Nat) (ds:List Df) (ro:Option Nat) (ih:Ac->KX->AJ) (kx:KX) (v:V):AJ:=insE d v e n fun e=>ih ⟨e,n,ds,ro⟩ kx
def pan (kx:KX) (a:Ac) (ch:List PE):AJ:=kx (.panic ch) a
def dfr (d:Option Nat) (e:Tr V) (n:Nat) (ds:List Df) (ro:Option Nat) (ih:Ac->KX->AJ) (kx:KX) (x:Df):AJ:=opt ro (insE d eL e n fun e=>ih ⟨e,n,x :: ds,ro⟩ kx) fun _=> .fail
def opG (g:Option (Nat × Bool)) (all:List Oper) (e:Tr V) (yes no:AJ):AJ:=opt g yes fun g=>aCA all g.1 g.2 e yes no
def opO (all:List Oper) (P:Program) (ex:Ex) (o:Oper) (ih:Ac->KX->AJ) (a:Ac) (k:KX):AJ:=acK a fun e n ds ro=>opG o.guard all e (opH o.op P ex e (fin o.dst e n ds ro ih k) (pan k ⟨e,n,ds,ro⟩) (dfr o.dst e n ds ro ih k)) (fin o.dst e n ds ro ih k eL)
def opsA (all:List Oper) (P:Program) (ex:Ex) (ops:List Oper):Ac->KX->AJ:=List.rec (fun a k=>k .normal a) (fun o _ ih=>opO all P ex o ih) ops
def bit (n:Nat):Nat:=Nat.shiftLeft 1 n
def has (m i:Nat):Bool:=Nat.beq (Nat.land (Nat.shiftRight m i) 1) 1
def dis (a b:Nat):Bool:=Nat.beq (Nat.land a b) 0
def opTmp:Operand->Nat
 | .tmp t=>bit t
 | _=>0
def nM:List Operand->Nat
 | []=>0
 | x :: r=>Nat.lor (opTmp x) (nM r)
def rD (ds:List Nat) (n:Nat) (l:List Edge):Option Nat:=List.rec (some 0) (fun e _ ih=>Option.rec none (fun m=>Bool.rec (some m) (Bool.rec none (Option.rec none (fun x=>eO (Nat.lor (Nat.lor (bit e.on) x) m) none some) (nth ds (Nat.sub (Nat.sub n 1) e.on))) (Nat.blt e.on n)) (Region.binds .any e)) ih) l
def pY:Option Nat->Nat
 | some t=>bit t
 | none=>0
def gBit (all:List Oper):Option (Nat × Bool)->Nat
 | none=>0
 | some (j,_)=>pY (jZ all j)
structure Inf where
 anc:Nat
 tr:Nat
 tw:Nat
def plain?:Op->Bool
 | .defer _=>false
 | .panic _=>false
 | .select _ _=>false
 | _=>true
def infs (all:List Oper) (l:List Oper):List Nat->Nat->(List Inf->Option (List Inf))->Option (List Inf):=List.rec (fun _ _ k=>k []) (fun o _ ih ds n k=>Option.rec none (fun x=>Bool.rec none (eO (Nat.lor (nM o.op.operands.toList) (gBit all o.guard)) none fun tr=>eO (pY o.dst) none fun tw=>ih (x :: ds) (Nat.succ n) fun l=>k (⟨x,tr,tw⟩ :: l)) (plain? o.op)) (rD ds n o.after.toList)) l
def tQ (x:Inf) (l:List Inf):Nat->Bool:=List.rec (fun _=>true) (fun y _ ih n=>Bool.rec (Bool.rec false (Bool.rec false (ih (Nat.sub n 1)) (dis y.tw x.tr)) (dis x.tw (Nat.lor y.tr y.tw))) (ih (Nat.sub n 1)) (has x.anc n)) l
def yQ (l:List Inf):Nat->List Inf->Bool:=List.rec (fun _ _=>true) (fun x _ ih n done=>Bool.rec false (ih (Nat.succ n) (x :: done)) (tQ x done (Nat.sub n 1))) l
def drawn (ops:List Oper):Option (List Inf):=infs ops ops [] 0 fun l=>ife (yQ l 0 []) (some l) none
def fpAp (f g:Fp):Bool:=Fp.rec (fun b lo hi w g=>Fp.rec (fun b' lo' hi' w'=>Bool.rec true (Bool.rec (Bool.rec (Bool.rec (Bool.not w') false w) true (Nat.ble hi' lo)) true (Nat.ble hi lo')) (Nat.beq b b')) (fun n0 n1=>Bool.rec (Nat.ble n1 b) true (Nat.blt b n0)) g)
 (fun n0 n1 g=>Fp.rec (fun b _ _ _=>Bool.rec (Nat.ble n1 b) true (Nat.blt b n0)) (fun m0 m1=>Bool.rec (Nat.ble m1 n0) true (Nat.ble n1 m0)) g) f g
def ap1 (f:Fp) (l:List Fp):Bool:=List.rec true (fun g _ ih=>Bool.rec false ih (fpAp f g)) l
def apL (l m:List Fp):Bool:=List.rec true (fun f _ ih=>Bool.rec false ih (ap1 f m)) l
def apart (anc:Nat) (lg:List Fp) (l:List (Nat × List Fp)):Bool:=List.rec true (fun p _ ih=>Bool.rec (Bool.rec false ih (apL lg p.2)) ih (has anc p.1)) l
def retV (v:V):AJ:= .ret (.val v)
def noPan (_:List PE):AJ:= .fail
def noDfr (_:Df):AJ:= .fail
def opD1 (all:List Oper) (P:Program) (ex:Ex) (o:Oper) (x:Inf) (i:Nat) (lg:List (Nat × List Fp)) (e:Tr V) (n:Nat) (ih:Nat->List (Nat × List Fp)->Tr V->AJ):AJ:=
 opG o.guard all e (.sub (opH o.op P ex e retV noPan noDfr) fun v l=>dJ (apart x.anc l lg) (insE o.dst v e n (ih (Nat.succ i) ((i,l) :: lg)))) (insE o.dst eL e n (ih (Nat.succ i) lg))
def opD (all:List Oper) (P:Program) (ex:Ex) (o:Oper) (x:Inf) (ih:Nat->List (Nat × List Fp)->Ac->KX->AJ) (i:Nat) (lg:List (Nat × List Fp)) (a:Ac) (k:KX):AJ:=acK a fun e n ds ro=>opD1 all P ex o x i lg e n fun i lg e=>ih i lg ⟨e,n,ds,ro⟩ k
def opsD (all:List Oper) (P:Program) (ex:Ex) (ops:List Oper):List Inf->Nat->List (Nat × List Fp)->Ac->KX->AJ:=List.rec (fun _ _ _ a k=>k .normal a) (fun o _ ih is=>List.rec (fun _ _ _ _=> .fail) (fun x is _=>opD all P ex o x (ih is)) is) ops
def aFx (ops:Array Oper) (draw:Bool) (P:Program) (ex:Ex) (a:Ac) (k:KX):AJ:=ife draw (oo (drawn ops.toList) fun is=>opsD ops.toList P ex ops.toList is 0 [] a k) (opsA ops.toList P ex ops.toList a k)
def blkX (x:X):Nat->KX->Ac->AJ:=X.rec (motive:=fun _=>Nat->KX->Ac->AJ) (fun _ k=>k .normal) (fun i=>fun id k=>ife (Nat.beq i id) (k .normal) (k (.exit i))) (fun _ k=>k .ret) (fun ch=>fun _ k=>k (.panic ch)) x
def seqX (x:X):(Ac->KX->AJ)->KX->Ac->AJ:=X.rec (motive:=fun _=>(Ac->KX->AJ)->KX->Ac->AJ) (fun f k a=>f a k) (fun i=>fun _ k a=>k (.exit i) a) (fun _ k a=>k .ret a) (fun ch=>fun _ k a=>k (.panic ch) a) x
def condX (t f:Ac->KX->AJ) (c:Operand) (a:Ac) (k:KX):AJ:=cR c a.e fun v=>asBool v (fun b=>ife b t f) (fun _ _=> .fail) a k
def markA (a:Ac) (k:Nat->Ac->AJ):AJ:=match a with
 | ⟨e,n,ds,ro⟩=>opt ro (.newO (.dfr true) fun r=>k r ⟨e,n, .col r :: ds,ro⟩) fun l=> .getO l fun o=>match o with
  | .loop _ _ _ _ _ _ _ _ d=>k d ⟨e,n,ds,ro⟩
  | _=> .fail
def jumpX:Option Code->Option X
 | none=>some .normal
 | some .ret=>some .ret
 | some (.exit id)=>some (.exit id)
 | _=>none
def isVal (x:O):AJ->(List PE->AJ)->AJ:=O.rec (motive:=fun _=>AJ->(List PE->AJ)->AJ) (fun _=>fun p _=>p) (fun ch=>fun _ f=>f ch) x
def aF5 (l:Nat) (k:X->AJ):AJ:= .getO l fun o=>match o with
 | .loop st p f e n ps sg bd d=>match st with
  | .busy=> .fail
  | _=> .setO l (.loop .exhausted p f e n ps sg bd d) (oo (jumpX p) k)
 | _=> .fail
def rangeA (f:Operand) (ps:Array Tmp) (sg bd:Code) (P:Program) (ex:Ex) (a:Ac) (k:KX):AJ:=cR f a.e fun fv=>markA a fun d a=>
 .newO (.loop .ready none 0 a.e a.n ps.toList sg bd d) fun l=>asFn fv (fun g first cap=>uK P ex g (ap first (ap [.yld l] cap)) fun o=>isVal o (aF5 l fun x=>k x a) (fun ch=>k (.panic ch) a)) fun _=> .fail
def rA (P:Program) (ex:Ex) (c:Code):Ac->KX->AJ:=Code.rec (fun a k=>k .normal a) (fun _ ops d a k=>aFx ops d P ex a k) (fun _ _ ia ib a k=>ia a fun x=>seqX x ib k) (fun c _ _ it if_ a k=>condX it if_ c a k)
 (fun id _ ib a k=>ib a fun x=>blkX x id k) (fun b ib a k=>ib a fun x=>seqX x (ex (.loop b)) k) (fun f ps sg bd _ _ a k=>rangeA f ps sg bd P ex a k) (fun id a k=>k (.exit id) a)
 (fun _ _ _ _=> .fail) (fun _ a k=>k .normal a) (fun _ _ _=> .fail) (fun a k=>k .ret a) (fun _ _ _=> .fail) c
def exec (P:Program) (n:Nat):Ex:=Nat.rec (fun _ _ _=> .fail) (fun _ ex c=>rA P ex c) n
def run0 (P:Program) (n:Nat) (f:Nat):R:=run (uK P (exec P n) f [] .ret) .leaf 0 []
def okB (r:R) (b:Bool):Bool:=match r with
 | some (.val (.bool c),_)=>c==b
 | _=>false
end
noncomputable section
theorem aFA (d n:Nat):paD (d+1) n=bif Nat.beq n 0 then .h else bif Nat.beq (n % 2) 1 then .l (paD d (n / 2)) else .r (paD d (n / 2 - 1)):=by
 show(Bool.rec (Bool.rec (Pa.r (paD d (n / 2 - 1))) (Pa.l (paD d (n / 2))) (Nat.beq (n % 2) 1)) Pa.h (Nat.beq n 0):Pa)=_
 cases Nat.beq n 0 <;> cases Nat.beq (n % 2) 1 <;> rfl
theorem rN {a b:Nat} (h:a≠b):Nat.beq a b=false:=by
 cases hb:Nat.beq a b with
 | false=>rfl
 | true=>exact absurd (a1y hb) h
theorem tY {a b:Nat} (h:a=b):Nat.beq a b=true:=by subst h;simp
theorem aCH:∀ (d n e m:Nat),n<d->m<e->paD d n=paD e m->n=m
 | 0,_,_,_,h,_,_=>by omega
 | _+1,_,0,_,_,h,_=>by omega
 | d+1,n,e+1,m,hn,hm,h=>by
  rw [aFA,aFA]at h;rcases a1z n with h0 | h0 <;> rcases a1z m with g0 | g0
  ·omega
  ·subst h0;rw [tY rfl,rN (by omega:m≠0)]at h;simp only [a1T,a1S]at h;cases hb:Nat.beq (m % 2) 1 <;> rw [hb]at h <;> cases h
  ·subst g0;rw [tY rfl,rN (by omega:n≠0)]at h;simp only [a1T,a1S]at h;cases hb:Nat.beq (n % 2) 1 <;> rw [hb]at h <;> cases h
  ·rw [rN (by omega:n≠0),rN (by omega:m≠0)]at h;simp only [a1S]at h;by_cases h1:n % 2=1 <;> by_cases g1:m % 2=1
   ·rw [tY h1,tY g1]at h;simp only [a1T,Pa.l.injEq]at h;have:=aCH d (n / 2) e (m / 2) (by omega) (by omega) h
    omega
   ·rw [tY h1,rN g1]at h;cases h
   ·rw [rN h1,tY g1]at h;cases h
   ·rw [rN h1,rN g1]at h;simp only [a1S,Pa.r.injEq]at h;have:=aCH d (n / 2 - 1) e (m / 2 - 1) (by omega) (by omega) h
    omega
theorem pa_inj {n m:Nat} (h:pa n=pa m):n=m:=aCH (n+1) n (m+1) m (by omega) (by omega) h
section
variable {α:Type}
theorem gp_l (l r:Tr α) (v:Option α) (p:Pa):gp (.node l v r) (.l p)=gp l p:=rfl
theorem gp_r (l r:Tr α) (v:Option α) (p:Pa):gp (.node l v r) (.r p)=gp r p:=rfl
def put (t:Tr α) (v:Option α) (p:Pa):Tr α:=pp t v p fun t=>t
theorem sI (v:Option α):∀ (p:Pa) {β:Type} (k:Tr α->β),one' v p k=k (one' v p fun t=>t)
 | .h,_,_=>rfl
 | .l p,_,k=>by
  show one' v p _=k (one' v p _)
  rw [sI v p,sI v p (fun t=>Tr.node t none .leaf)]
 | .r p,_,k=>by
  show one' v p _=k (one' v p _)
  rw [sI v p,sI v p (fun t=>Tr.node .leaf none t)]
theorem pp_k (v:Option α):∀ (t:Tr α) (p:Pa) {β:Type} (k:Tr α->β),pp t v p k=k (put t v p)
 | .leaf,p,_,k=>sI v p k
 | .node l x r, .h,_,k=>rfl
 | .node l x r, .l p,_,k=>by
  show pp l v p _=k (pp l v p _)
  rw [pp_k v l p,pp_k v l p (fun l'=>Tr.node l' x r)]
 | .node l x r, .r p,_,k=>by
  show pp r v p _=k (pp r v p _)
  rw [pp_k v r p,pp_k v r p (fun r'=>Tr.node l x r')]
theorem aA4 (v:Option α) (p:Pa):put (.leaf:Tr α) v (.l p)= .node (put .leaf v p) none .leaf:=by
 show one' v p _=_;rw [sI];rfl
theorem aAh (v:Option α) (p:Pa):put (.leaf:Tr α) v (.r p)= .node .leaf none (put .leaf v p):=by
 show one' v p _=_;rw [sI];rfl
theorem put_l (l r:Tr α) (x v:Option α) (p:Pa):put (.node l x r) v (.l p)= .node (put l v p) x r:=by
 show pp l v p _=_;rw [pp_k]
theorem put_r (l r:Tr α) (x v:Option α) (p:Pa):put (.node l x r) v (.r p)= .node l x (put r v p):=by
 show pp r v p _=_;rw [pp_k]
theorem wV (v:Option α):∀ (t:Tr α) (p:Pa),gp (put t v p) p=v
 | .leaf, .h=>rfl
 | .leaf, .l p=>by rw [aA4,gp_l];exact wV v .leaf p
 | .leaf, .r p=>by rw [aAh,gp_r];exact wV v .leaf p
 | .node l x r, .h=>rfl
 | .node l x r, .l p=>by rw [put_l,gp_l];exact wV v l p
 | .node l x r, .r p=>by rw [put_r,gp_r];exact wV v r p
theorem xE (v:Option α):∀ (t:Tr α) (p q:Pa),p≠q->gp (put t v p) q=gp t q
 | .leaf, .h, .h,h=>absurd rfl h
 | .leaf, .h, .l q,_=>rfl
 | .leaf, .h, .r q,_=>rfl
 | .leaf, .l p, .h,_=>by rw [aA4];rfl
 | .leaf, .l p, .l q,h=>by rw [aA4,gp_l,xE v .leaf p q (fun e=>h (e ▸ rfl))];rfl
 | .leaf, .l p, .r q,_=>by rw [aA4];rfl
 | .leaf, .r p, .h,_=>by rw [aAh];rfl
 | .leaf, .r p, .l q,_=>by rw [aAh];rfl
 | .leaf, .r p, .r q,h=>by rw [aAh,gp_r,xE v .leaf p q (fun e=>h (e ▸ rfl))];rfl
 | .node l x r, .h, .h,h=>absurd rfl h
 | .node l x r, .h, .l q,_=>rfl
 | .node l x r, .h, .r q,_=>rfl
 | .node l x r, .l p, .h,_=>by rw [put_l];rfl
 | .node l x r, .l p, .l q,h=>by rw [put_l,gp_l,gp_l,xE v l p q (fun e=>h (e ▸ rfl))]
 | .node l x r, .l p, .r q,_=>by rw [put_l];rfl
 | .node l x r, .r p, .h,_=>by rw [put_r];rfl
 | .node l x r, .r p, .l q,_=>by rw [put_r];rfl
 | .node l x r, .r p, .r q,h=>by rw [put_r,gp_r,gp_r,xE v r p q (fun e=>h (e ▸ rfl))]
def at_ (t:Tr α) (n:Nat):Option α:=gp t (pa n)
def pu (t:Tr α) (n:Nat) (v:Option α):Tr α:=put t v (pa n)
theorem gA (t:Tr α) (n m:Nat) (v:Option α):at_ (pu t n v) m=if m=n then v else at_ t m:=by
 by_cases h:m=n
 ·subst h;rw [a1Y rfl];exact wV v t _
 ·rw [a1X h];exact xE v t _ _ fun e=>h (pa_inj e).symm
theorem at_same {t:Tr α} {n:Nat} {v:Option α}:at_ (pu t n v) n=v:=by rw [gA,a1Y rfl]
theorem at_ne {t:Tr α} {n m:Nat} {v:Option α} (h:m≠n):at_ (pu t n v) m=at_ t m:=by rw [gA,a1X h]
theorem xP (n:Nat):at_ (.leaf:Tr α) n=none:=rfl
theorem nN {β:Type} (t:Tr α) (v:Option α) (n:Nat) (k:Tr α->β):pp t v (pa n) k=k (pu t n v):=pp_k v t _ k
theorem aBE:∀ (l:List α) (n:Nat) (t:Tr α) (m:Nat),at_ (uC l n t fun t=>t) m=if n<=m/\m<n+l.length then l[m - n]? else at_ t m
 | [],n,t,m=>by rw [a1X (by simp)];rfl
 | x :: l,n,t,m=>by
  show at_ (pp t (some x) (pa n) _) m=_
  rw [nN];show at_ (uC l (n+1) (pu t n (some x)) fun t=>t) m=_
  rw [aBE l (n+1) _ m];by_cases h1:n+1<=m/\m<n+1+l.length
  ·rw [a1Y h1,a1Y (by simp;omega),show m - n=(m - (n+1))+1 from by omega,a0F]
  ·rw [a1X h1,gA];by_cases h2:m=n
   ·subst h2;rw [a1Y rfl,a1Y (by simp)];simp
   ·rw [a1X h2,a1X (by simp;omega)]
end
section
variable {α:Type}
theorem mF:∀ (l:List α) (n:Nat),nth l n=l[n]?
 | [],_=>rfl
 | _ :: _,0=>rfl
 | _ :: l,n+1=>by rw [a0F,<- mF l n];rfl
theorem dr_eq:∀ (n:Nat) (l:List α),dr n l=l.drop n
 | 0,_=>rfl
 | _+1,[]=>rfl
 | n+1,_ :: l=>by rw [List.drop_succ_cons,<- dr_eq n l];rfl
theorem xF:∀ (n:Nat) (l r:List α),tk n l=some r ↔ n<=l.length/\r=l.take n
 | 0,l,r=>by show some []=some r ↔ _;simp [eq_comm]
 | n+1,[],r=>by show none=some r ↔ _;simp
 | n+1,x :: l,r=>by
  show(Option.rec none (fun t=>some (x :: t)) (tk n l):Option (List α))=some r ↔ _
  cases h:tk n l with
  | none=>
   have:¬ n<=l.length:=fun e=>by have:=(xF n l (l.take n)).2 ⟨e,rfl⟩;rw [h]at this;cases this
   simp;omega
  | some t=>
   have:=(xF n l t).1 h;simp only [a1P,a0R,List.take_succ_cons];constructor
   ·rintro rfl;exact⟨by omega,by rw [this.2]⟩
   ·rintro⟨_,rfl⟩;rw [this.2]
theorem jH:∀ (l m:List α),ap l m=l++m
 | [],_=>rfl
 | x :: l,m=>by rw [a0w,<- jH l m];rfl
theorem ln_eq:∀ (l:List α) (n:Nat),ln l n=l.length+n
 | [],n=>by simp;rfl
 | _ :: l,n=>by
  show ln l (n+1)=_
  rw [ln_eq l (n+1),a0R];omega
theorem ln0 (l:List α):ln l 0=l.length:=ln_eq l 0
theorem ov_eq:∀ (new c r:List α),ov new c=some r ↔ new.length<=c.length/\r=new++c.drop new.length
 | [],c,r=>by show some c=some r ↔ _;simp [eq_comm]
 | x :: l,[],r=>by show none=some r ↔ _;simp
 | x :: l,_ :: c,r=>by
  show(Option.rec none (fun t=>some (x :: t)) (ov l c):Option (List α))=some r ↔ _
  cases h:ov l c with
  | none=>
   have:¬ l.length<=c.length:=fun e=>by have:=(ov_eq l c _).2 ⟨e,rfl⟩;rw [h]at this;cases this
   simp only [a0R];constructor
   ·intro e;cases e
   ·rintro⟨e,_⟩;omega
  | some t=>
   have:=(ov_eq l c t).1 h;simp only [a1P,a0R,a0w,List.drop_succ_cons];constructor
   ·rintro rfl;exact⟨by omega,by rw [this.2]⟩
   ·rintro⟨_,rfl⟩;rw [this.2]
theorem tU (new:List α):∀ (off:Nat) (c r:List α),pl new off c=some r ↔ off+new.length<=c.length/\r=c.take off++new++c.drop (off+new.length)
 | 0,c,r=>by
  show ov new c=some r ↔ _
  rw [ov_eq];simp
 | off+1,[],r=>by show none=some r ↔ _;simp
 | off+1,x :: c,r=>by
  show(Option.rec none (fun t=>some (x :: t)) (pl new off c):Option (List α))=some r ↔ _
  cases h:pl new off c with
  | none=>
   have:¬ off+new.length<=c.length:=fun e=>by have:=(tU new off c _).2 ⟨e,rfl⟩;rw [h]at this;cases this
   constructor
   ·intro e;cases e
   ·rintro⟨e,_⟩;simp at e;omega
  | some t=>
   have:=(tU new off c t).1 h;have e:off+1+new.length=(off+new.length)+1:=by omega
   simp only [a1P,a0R,e,List.take_succ_cons,List.drop_succ_cons,a0w];constructor
   ·rintro rfl;exact⟨by omega,by rw [this.2]⟩
   ·rintro⟨_,rfl⟩;rw [this.2]
theorem aC1 (l:List α):∀ n,rep l n=(List.replicate n l).flatten
 | 0=>rfl
 | n+1=>by
  show ap l (rep l n)=_
  rw [jH,aC1 l n,List.replicate_succ,List.flatten_cons]
theorem wH {β:Type} (n:Nat) (d:β) (f:Nat->β):eO n d f=f n:=rfl
end
end
noncomputable section
inductive CV where
 | val (v:V)
 | mark (n t op:Nat)
 | obj (o:Ob)
def cvB (k:Option Blk) (i:Nat):Option CV:=match k with
 | none=>none
 | some (.cells c t op)=>if i=c.length then some (.mark i t op) else c[i]?.map .val
 | some (.obj o)=>if i=0 then some (.obj o) else none
def cv (h:Tr Blk) (b i:Nat):Option CV:=cvB (at_ h b) i
theorem mA {k:Option Blk} {i:Nat} {v:V}:cvB k i=some (.val v) ↔ ∃ c t op,k=some (.cells c t op)/\c[i]? =some v:=by
 match k with
 | none=>simp [cvB]
 | some (.obj o)=>simp only [cvB];split <;> simp
 | some (.cells c t op)=>
  simp only [cvB,a1P,Blk.cells.injEq];constructor
  ·intro h;split at h
   ·cases h
   ·exact⟨c,t,op,⟨rfl,rfl,rfl⟩,by simpa using h⟩
  ·rintro⟨c',t',op',⟨rfl,rfl,rfl⟩,h⟩
   rw [a1X (by have:=(a0K.1 h).1;omega),h];rfl
theorem vO {k:Option Blk} {i n t op:Nat}:cvB k i=some (.mark n t op) ↔ ∃ c,k=some (.cells c t op)/\c.length=n/\i=n:=by
 match k with
 | none=>simp [cvB]
 | some (.obj o)=>simp only [cvB];split <;> simp
 | some (.cells c t' op')=>
  simp only [cvB,a1P,Blk.cells.injEq];constructor
  ·intro h;split at h
   ·cases h;exact⟨c,⟨rfl,rfl,rfl⟩,by omega,rfl⟩
   ·simp at h
  ·rintro⟨c',⟨rfl,rfl,rfl⟩,rfl,rfl⟩
   rw [a1Y rfl]
theorem rP {k:Option Blk} {i:Nat} {o:Ob}:cvB k i=some (.obj o) ↔ k=some (.obj o)/\i=0:=by
 match k with
 | none=>simp [cvB]
 | some (.obj o')=>simp only [cvB,a1P,Blk.obj.injEq];split <;> simp_all
 | some (.cells c t' op')=>
  simp only [cvB,a1P];constructor
  ·intro h;split at h
   ·cases h
   ·simp at h
  ·rintro⟨h,_⟩;cases h
theorem aFd {k:Option Blk} (h:∀ i,cvB k i=none):k=none:=by
 match k with
 | none=>rfl
 | some (.obj o)=>have:=h 0;simp [cvB]at this
 | some (.cells c t op)=>have:=h c.length;simp [cvB]at this
theorem cvB_ext {k k':Option Blk} (h:∀ i,cvB k i=cvB k' i):k=k':=by
 match k with
 | none=>exact(aFd fun i=>(h i).symm).symm
 | some (.obj o)=>
  have:=(h 0).symm.trans (rP.2 ⟨rfl,rfl⟩);exact(rP.1 this).1.symm
 | some (.cells c t op)=>
  have h1:cvB (some (.cells c t op)) c.length=some (.mark c.length t op):=vO.2 ⟨c,rfl,rfl,rfl⟩;obtain⟨c',hk,hl,_⟩:=vO.1 ((h _).symm.trans h1);subst hk;have:c'=c:=by
   apply a0z
   intro i;by_cases hi:i<c.length
   ·have h2:cvB (some (.cells c t op)) i=some (.val c[i]):=mA.2 ⟨c,t,op,rfl,by simp [hi]⟩
    obtain⟨_,_,_,e,h3⟩:=mA.1 ((h _).symm.trans h2);cases e;rw [h3];simp [hi]
   ·rw [a0J (by omega),a0J (by omega)]
  rw [this]
def Fp.t:Fp->Nat->Nat->Prop
 | .cell b lo hi _,c,i=>c=b/\lo<=i/\i<hi
 | .fresh n0 n1,c,_=>n0<=c/\c<n1
def Fp.w:Fp->Nat->Nat->Prop
 | .cell b lo hi w,c,i=>w=true/\c=b/\lo<=i/\i<hi
 | .fresh n0 n1,c,_=>n0<=c/\c<n1
def T (l:List Fp) (b i:Nat):Prop:=∃ f∈l,f.t b i
def W (l:List Fp) (b i:Nat):Prop:=∃ f∈l,f.w b i
theorem w_t {f:Fp} {b i:Nat} (h:f.w b i):f.t b i:=by
 cases f with
 | cell=>exact h.2
 | fresh=>exact h
theorem W.t {l:List Fp} {b i:Nat} (h:W l b i):T l b i:=let ⟨f,m,x⟩:=h;⟨f,m,w_t x⟩
theorem T_app {l m:List Fp} {b i:Nat}:T (l++m) b i ↔ T l b i\/T m b i:=by simp [T,or_and_right,exists_or]
theorem yJ {l m:List Fp} {b i:Nat}:W (l++m) b i ↔ W l b i\/W m b i:=by simp [W,or_and_right,exists_or]
theorem zB {f:Fp} {b i:Nat}:T [f] b i ↔ f.t b i:=by simp [T]
theorem vD {f:Fp} {b i:Nat}:W [f] b i ↔ f.w b i:=by simp [W]
theorem aDh {b i:Nat}:¬ W [] b i:=fun ⟨_,h,_⟩=>by cases h
def Agr (l:List Fp) (g h:Tr Blk):Prop:=∀ b i,T l b i->cv g b i=cv h b i
structure Dif (l:List Fp) (g h1 g1:Tr Blk):Prop where
 inn:∀ b i,W l b i->cv g1 b i=cv h1 b i
 out:∀ b i,¬ W l b i->cv g1 b i=cv g b i
abbrev Pr (α:Type):=Tr Blk->Nat->Option (α × Tr Blk × Nat × List Fp)
structure iD {α:Type} (pr:Pr α):Prop where
 mono:∀ {h nx x h1 n1 l},pr h nx=some (x,h1,n1,l)->nx<=n1
 out:∀ {h nx x h1 n1 l},pr h nx=some (x,h1,n1,l)->∀ b i,¬ W l b i->cv h1 b i=cv h b i
 loc:∀ {h nx x h1 n1 l},pr h nx=some (x,h1,n1,l)->∀ g,Agr l g h->∃ g1,pr g nx=some (x,g1,n1,l)/\Dif l g h1 g1
structure Loc (f:St):Prop where
 shape:∀ {h nx lg r},f h nx lg=some r->∃ l,r.2.log=l++lg/\nx<=r.2.nx/\(∀ b i,¬ W l b i->cv r.2.h b i=cv h b i) /\
  ∀ g lg2,Agr l g h->∃ g1,f g nx lg2=some (r.1,⟨g1,r.2.nx,l++lg2⟩)/\Dif l g r.2.h g1
theorem Agr.app1 {l m:List Fp} {g h:Tr Blk} (a:Agr (m++l) g h):Agr l g h:=fun b i t=>a b i (T_app.2 (.inr t))
theorem Loc.seq {α:Type} {pr:Pr α} {k:α->St} {f:St} (hp:iD pr) (hk:∀ x,Loc (k x))
 (hf:∀ h nx lg,f h nx lg=match pr h nx with
  | none=>none
  | some (x,h1,n1,l)=>k x h1 n1 (l++lg)):Loc f:=⟨fun {h nx lg r} e=>by
 rw [hf]at e
 cases hq:pr h nx with
 | none=>rw [hq]at e;cases e
 | some q=>
  obtain⟨x,h1,n1,l1⟩:=q;rw [hq]at e;obtain⟨l2,e1,e2,e3,e4⟩:=(hk x).shape e;refine⟨l2++l1,by rw [e1];simp,a1C (hp.mono hq) e2,fun b i hw=>?_,fun g lg2 ha=>?_⟩
  ·rw [e3 b i fun w=>hw (yJ.2 (.inl w)),hp.out hq b i fun w=>hw (yJ.2 (.inr w))]
  ·obtain⟨g1,f1,d1⟩:=hp.loc hq g ha.app1;have ha2:Agr l2 g1 h1:=fun b i t=>by
    by_cases hw:W l1 b i
    ·exact d1.inn b i hw
    ·rw [d1.out b i hw,ha b i (T_app.2 (.inl t)),hp.out hq b i hw]
   obtain⟨g2,f2,d2⟩:=e4 g1 (l1++lg2) ha2;refine⟨g2,by rw [hf,f1];simp only [];rw [f2,a0u],fun b i hw=>?_,fun b i hw=>?_⟩
   ·by_cases hw2:W l2 b i
    ·exact d2.inn b i hw2
    ·rw [d2.out b i hw2,e3 b i hw2];exact d1.inn b i ((yJ.1 hw).resolve_left hw2)
   ·rw [d2.out b i fun w=>hw (yJ.2 (.inl w)),d1.out b i fun w=>hw (yJ.2 (.inr w))]⟩
theorem sT {h:Tr Blk} {b c i:Nat} {k:Option Blk}:cv (pu h b k) c i=if c=b then cvB k i else cv h c i:=by
 unfold cv;rw [gA];split <;> rfl
def pRd (b off n:Nat):Pr (List V):=fun h nx=>match at_ h b with
 | some (.cells c _ _)=>match tk n (dr off c)with
  | some l=>if 0<n then some (l,h,nx,[.cell b off (off+n) false]) else none
  | none=>none
 | _=>none
theorem tk_dr {n off:Nat} {c l:List V}:tk n (dr off c)=some l ↔ (n=l.length/\(0<n->off+n<=c.length)/\∀ j,j<n->c[off+j]? =l[j]?):=by
 rw [dr_eq,xF]
 constructor
 ·rintro⟨h,rfl⟩
  simp only [a0S]at h;refine⟨by simp;omega,fun _=>by omega,fun j hj=>?_⟩
  rw [a0O hj,a0H]
 ·rintro⟨h1,h2,h3⟩
  have hle:n<=(c.drop off).length:=by
   rcases a1z n with h0 | h0
   ·omega
   ·have:=h2 h0;simp;omega
  refine⟨hle,a0z fun j=>?_⟩
  by_cases hj:j<n
  ·rw [a0O hj,a0H,h3 j hj]
  ·rw [a0J (by omega),a0J (by simp;omega)]
theorem pRd_loc (b off n:Nat):iD (pRd b off n):=by
 have inv:∀ {h nx x h1 n1 l},pRd b off n h nx=some (x,h1,n1,l)->h1=h/\n1=nx/\l=[.cell b off (off+n) false]/\0<n/\n=x.length/\∀ j,j<n->cv h b (off+j)=x[j]?.map .val:=by
  intro h nx x h1 n1 l e;unfold pRd at e;split at e
  ·rename_i c t op hb;split at e
   ·rename_i l' htk;split at e
    ·rename_i hn;cases e;obtain⟨e1,e2,e3⟩:=tk_dr.1 htk;refine⟨rfl,rfl,rfl,hn,e1,fun j hj=>?_⟩
     have hx:j<x.length:=by omega
     rw [a0I hx,a1N];exact mA.2 ⟨c,t,op,hb,by rw [e3 j hj,a0I hx]⟩
    ·cases e
   ·cases e
  ·cases e
 refine⟨fun e=>?_,fun e b i _=>?_,fun {h nx x h1 n1 l} e g ha=>?_⟩
 ·obtain⟨_,rfl,_⟩:=inv e;exact a1B _
 ·obtain⟨rfl,_⟩:=inv e;rfl
 ·obtain⟨rfl,rfl,rfl,hn,hx,hv⟩:=inv e;refine⟨g,?_,fun c i hw=>?_,fun _ _ _=>rfl⟩
  ·have hg:∀ j,j<n->cv g b (off+j)=x[j]?.map .val:=fun j hj=>by
    rw [ha b (off+j) (zB.2 ⟨rfl,by omega,by omega⟩)];exact hv j hj
   have h0:=hg 0 hn;rw [a0I (by omega),a1N]at h0;obtain⟨c,t,op,hb,_⟩:=mA.1 h0;have:tk n (dr off c)=some x:=tk_dr.2 ⟨hx,fun _=>?_,fun j hj=>?_⟩
   ·unfold pRd;rw [hb];simp only [];rw [this];simp only [hn,if_true]
   ·have h1:=hg (n - 1) (by omega)
    rw [a0I (by omega),a1N]at h1;obtain⟨c',_,_,hb',h2⟩:=mA.1 h1;rw [hb]at hb';cases hb'
    have:=(a0K.1 h2).1;omega
   ·have h1:=hg j hj;rw [a0I (by omega),a1N]at h1;obtain⟨c',_,_,hb',h2⟩:=mA.1 h1;rw [hb]at hb';cases hb'
    rw [h2,a0I]
  ·rw [vD]at hw;cases hw.1
theorem aAs {g h:Tr Blk} {b:Nat} {k k':Option Blk} {l:List Fp} (hl:∀ c i,W l c i->c=b) (hi:∀ i,W l b i->cvB k' i=cvB k i) (ho:∀ i,¬ W l b i->cvB k' i=cv g b i):Dif l g (pu h b k) (pu g b k'):=
 ⟨fun c i hw=>by obtain rfl:=hl c i hw;rw [sT,sT,a1Y rfl,a1Y rfl];exact hi i hw,
  fun c i hw=>by rw [sT];split
                 ·rename_i e;subst e;exact ho i hw
                 ·rfl⟩
theorem zJ {g h:Tr Blk} {l:List Fp} (hl:∀ c i,¬ W l c i):Dif l g h g:=⟨fun c i hw=>absurd hw (hl c i),fun _ _ _=>rfl⟩
def pRd1 (b off:Nat):Pr V:=fun h nx=>match at_ h b with
 | some (.cells c _ _)=>match c[off]? with
  | some v=>some (v,h,nx,[.cell b off (off+1) false])
  | none=>none
 | _=>none
theorem xC {b off:Nat} {h:Tr Blk} {nx:Nat} {q:V × Tr Blk × Nat × List Fp}:pRd1 b off h nx=some q ↔ cv h b off=some (.val q.1)/\q.2=(h,nx,[.cell b off (off+1) false]):=by
 obtain⟨v,q⟩:=q
 unfold pRd1 cv
 rw [mA]
 constructor
 ·intro e;split at e
  ·rename_i c t op hb;split at e
   ·rename_i u hu;cases e;exact⟨⟨c,t,op,hb,hu⟩,rfl⟩
   ·cases e
  ·cases e
 ·rintro⟨⟨c,t,op,hb,hu⟩,rfl⟩
  rw [hb];simp only [];simp only at hu;rw [hu]
theorem aBA {b lo hi:Nat}:∀ c i,¬ W [.cell b lo hi false] c i:=fun c i hw=>by rw [vD]at hw;cases hw.1
theorem pRd1_loc (b off:Nat):iD (pRd1 b off):=by
 refine⟨fun e=>?_,fun e b i _=>?_,fun e g ha=>?_⟩
 ·have:=(xC.1 e).2;cases this;exact a1B _
 ·have:=(xC.1 e).2;cases this;rfl
 ·obtain⟨e1,e2⟩:=xC.1 e;cases e2;exact⟨g,xC.2 ⟨by rw [ha b off (zB.2 ⟨rfl,by omega,by omega⟩)];exact e1,rfl⟩,zJ aBA⟩
def pWr (b off:Nat) (l:List V):Pr Unit:=fun h nx=>match at_ h b with
 | some (.cells c t op)=>match pl l off c with
  | some c'=>if 0<l.length then some ((),pu h b (some (.cells c' t op)),nx,[.cell b off (off+l.length) true]) else none
  | none=>none
 | _=>none
theorem over_get {c l:List V} {off i:Nat} (h:off+l.length<=c.length):(c.take off++l++c.drop (off+l.length))[i]? =if off<=i/\i<off+l.length then l[i - off]? else c[i]?:=by
 rw [a0u,List.getElem?_append,List.length_take,a1G (by omega)]
 by_cases h1:i<off
 ·rw [a1Y h1,a1X (by omega),a0O h1]
 ·rw [a1X h1,List.getElem?_append];by_cases h2:i - off<l.length
  ·rw [a1Y h2,a1Y (by omega)]
  ·rw [a1X h2,a1X (by omega),a0H];congr 1;omega
theorem over_len {c l:List V} {off:Nat} (h:off+l.length<=c.length):(c.take off++l++c.drop (off+l.length)).length=c.length:=by
 simp;omega
theorem aAR {c l:List V} {off t op i:Nat} (h:off+l.length<=c.length):cvB (some (.cells (c.take off++l++c.drop (off+l.length)) t op)) i =
 if off<=i/\i<off+l.length then l[i - off]?.map .val else cvB (some (.cells c t op)) i:=by
 simp only [cvB,over_len h,over_get h]
 by_cases h1:off<=i/\i<off+l.length
 ·rw [a1Y h1,a1Y h1,a1X (by omega)]
 ·rw [a1X h1,a1X h1]
theorem pWr_loc (b off:Nat) (l:List V):iD (pWr b off l):=by
 have inv:∀ {h nx q},pWr b off l h nx=some q ↔ ∃ c t op,at_ h b=some (.cells c t op)/\off+l.length<=c.length/\0<l.length/\q=((),pu h b (some (.cells (c.take off++l++c.drop (off+l.length)) t op)),nx,[.cell b off (off+l.length) true]):=by
  intro h nx q;unfold pWr;constructor
  ·intro e;split at e
   ·rename_i c t op hb;split at e
    ·rename_i c' hpl;split at e
     ·rename_i hn;cases e;obtain⟨h1,rfl⟩:=(tU l off c c').1 hpl;exact⟨c,t,op,hb,h1,hn,rfl⟩
     ·cases e
    ·cases e
   ·cases e
  ·rintro⟨c,t,op,hb,h1,hn,rfl⟩
   rw [hb];simp only [];rw [(tU l off c _).2 ⟨h1,rfl⟩];simp only [hn,if_true]
 have hw:∀ c i,W [.cell b off (off+l.length) true] c i ↔ c=b/\off<=i/\i<off+l.length:=fun c i=>by rw [vD];exact⟨fun h=>h.2,fun h=>⟨rfl,h⟩⟩
 refine⟨fun e=>?_,fun e c i hn=>?_,fun {h nx x h1 n1 m} e g ha=>?_⟩
 ·obtain⟨_,_,_,_,_,_,q⟩:=inv.1 e;cases q;exact a1B _
 ·obtain⟨cs,t,op,hb,hle,_,q⟩:=inv.1 e;cases q;rw [sT];split
  ·rename_i hc;subst hc
   rw [aAR hle,a1X fun hx=>hn ((hw _ _).2 ⟨rfl,hx⟩)];unfold cv;rw [hb]
  ·rfl
 ·obtain⟨cs,t,op,hb,hle,hpos,q⟩:=inv.1 e;cases q;have hcell:∀ j,off<=j->j<off+l.length->∃ c' t' op',at_ g b=some (.cells c' t' op')/\j<c'.length:=fun j h1 h2=>by
   have hx:cv h b j=some (.val (cs[j]'(by omega))):=mA.2 ⟨cs,t,op,hb,by simp⟩
   obtain⟨c',t',op',e1,e2⟩:=mA.1 ((ha b j (zB.2 ⟨rfl,h1,h2⟩)).trans hx);exact⟨c',t',op',e1,(a0K.1 e2).1⟩
  obtain⟨c',t',op',hg,_⟩:=hcell off (by omega) (by omega)
  have hle':off+l.length<=c'.length:=by
   obtain⟨c'',_,_,hg',hl⟩:=hcell (off+l.length - 1) (by omega) (by omega)
   rw [hg]at hg';cases hg';omega
  refine⟨_,inv.2 ⟨c',t',op',hg,hle',hpos,rfl⟩,aAs (fun c i h=>((hw c i).1 h).1) (fun i h=>?_) fun i h=>?_⟩
  ·have:=((hw _ _).1 h).2;rw [aAR hle',aAR hle,a1Y this,a1Y this]
  ·rw [aAR hle',a1X fun hx=>h ((hw _ _).2 ⟨rfl,hx⟩)];unfold cv;rw [hg]
def pSz (b:Nat):Pr (Nat × Nat × Nat):=fun h nx=>match at_ h b with
 | some (.cells c t op)=>some ((c.length,t,op),h,nx,[.cell b c.length (c.length+1) false])
 | _=>none
theorem pSz_loc (b:Nat):iD (pSz b):=by
 have inv:∀ {h nx q},pSz b h nx=some q ↔ ∃ n t op,cv h b n=some (.mark n t op)/\q=((n,t,op),h,nx,[.cell b n (n+1) false]):=by
  intro h nx q;unfold pSz cv;constructor
  ·intro e;split at e
   ·rename_i c t op hb;cases e;exact⟨c.length,t,op,by rw [hb];exact vO.2 ⟨c,rfl,rfl,rfl⟩,rfl⟩
   ·cases e
  ·rintro⟨n,t,op,h1,rfl⟩
   obtain⟨c,hb,rfl,_⟩:=vO.1 h1;rw [hb]
 refine⟨fun e=>?_,fun e b i _=>?_,fun e g ha=>?_⟩
 ·obtain⟨_,_,_,_,q⟩:=inv.1 e;cases q;exact a1B _
 ·obtain⟨_,_,_,_,q⟩:=inv.1 e;cases q;rfl
 ·obtain⟨n,t,op,h1,q⟩:=inv.1 e;cases q;exact⟨g,inv.2 ⟨n,t,op,by rw [ha b n (zB.2 ⟨rfl,by omega,by omega⟩)];exact h1,rfl⟩,zJ aBA⟩
def iX (x:Blk):Pr Nat:=fun h nx=>match at_ h nx with
 | none=>some (nx,pu h nx (some x),nx+1,[.fresh nx (nx+1)])
 | some _=>none
theorem aDg (x:Blk):iD (iX x):=by
 have inv:∀ {h nx q},iX x h nx=some q ↔ at_ h nx=none/\q=(nx,pu h nx (some x),nx+1,[.fresh nx (nx+1)]):=by
  intro h nx q;unfold iX;constructor
  ·intro e;split at e
   ·rename_i hb;cases e;exact⟨hb,rfl⟩
   ·cases e
  ·rintro⟨h1,rfl⟩;rw [h1]
 have hw:∀ {nx c i},W [.fresh nx (nx+1)] c i ↔ c=nx:=fun {nx c i}=>by rw [vD];show _/\_ ↔ _;omega
 refine⟨fun e=>?_,fun e c i hn=>?_,fun {h nx y h1 n1 m} e g ha=>?_⟩
 ·obtain⟨_,q⟩:=inv.1 e;cases q;omega
 ·obtain⟨_,q⟩:=inv.1 e;cases q;rw [sT,a1X fun h=>hn (hw.2 h)]
 ·obtain⟨h0,q⟩:=inv.1 e;cases q;have:at_ g nx=none:=aFd fun i=>by
   have:=ha nx i (W.t (hw.2 rfl));unfold cv at this;rw [this,h0];rfl
  exact⟨_,inv.2 ⟨this,rfl⟩,aAs (fun c i h=>hw.1 h) (fun _ _=>rfl) fun i h=>absurd (hw.2 rfl) h⟩
def pDel (b:Nat):Pr Unit:=fun h nx=>match at_ h b with
 | some (.cells c _ _)=>some ((),pu h b none,nx,[.cell b 0 (c.length+1) true])
 | _=>none
theorem aGC {c:List V} {t op i:Nat} (h:c.length<i):cvB (some (.cells c t op)) i=none:=by
 simp only [cvB];rw [a1X (by omega),a0J (by omega)];rfl
theorem pDel_loc (b:Nat):iD (pDel b):=by
 have inv:∀ {h nx q},pDel b h nx=some q ↔ ∃ c t op,at_ h b=some (.cells c t op)/\q=((),pu h b none,nx,[.cell b 0 (c.length+1) true]):=by
  intro h nx q;unfold pDel;constructor
  ·intro e;split at e
   ·rename_i c t op hb;cases e;exact⟨c,t,op,hb,rfl⟩
   ·cases e
  ·rintro⟨c,t,op,h1,rfl⟩;rw [h1]
 have hw:∀ {n c i},W [.cell b 0 (n+1) true] c i ↔ c=b/\i<=n:=fun {n c i}=>by rw [vD];show _/\_/\_/\_ ↔ _;simp;omega
 refine⟨fun e=>?_,fun e c i hn=>?_,fun {h nx y h1 n1 m} e g ha=>?_⟩
 ·obtain⟨_,_,_,_,q⟩:=inv.1 e;cases q;exact a1B _
 ·obtain⟨cs,t,op,hb,q⟩:=inv.1 e;cases q;rw [sT];split
  ·rename_i hc;subst hc
   have:cs.length<i:=by
    rcases a1E cs.length i with h | h
    ·exact h
    ·exact absurd (hw.2 ⟨rfl,h⟩) hn
   unfold cv;rw [hb,aGC this];rfl
  ·rfl
 ·obtain⟨cs,t,op,hb,q⟩:=inv.1 e;cases q;have h1:cv h b cs.length=some (.mark cs.length t op):=vO.2 ⟨cs,hb,rfl,rfl⟩;obtain⟨c',hg,hl,_⟩:=vO.1 ((ha b _ (W.t (hw.2 ⟨rfl,a1B _⟩))).trans h1);refine⟨_,inv.2 ⟨c',t,op,hg,by rw [hl]⟩,aAs (fun c i h=>(hw.1 h).1) (fun _ _=>rfl) fun i h=>?_⟩
  have:c'.length<i:=by
   rcases a1E c'.length i with h' | h'
   ·exact h'
   ·exact absurd (hw.2 ⟨rfl,by omega⟩) h
  unfold cv;rw [hg,aGC this];rfl
def pX (b:Nat):Pr Ob:=fun h nx=>match at_ h b with
 | some (.obj o)=>some (o,h,nx,[.cell b 0 1 false])
 | _=>none
theorem aJi (b:Nat):iD (pX b):=by
 have inv:∀ {h nx q},pX b h nx=some q ↔ cv h b 0=some (.obj q.1)/\q.2=(h,nx,[.cell b 0 1 false]):=by
  intro h nx q;obtain⟨o,q⟩:=q;unfold pX cv;rw [rP];constructor
  ·intro e;split at e
   ·rename_i o' hb;cases e;exact⟨⟨hb,rfl⟩,rfl⟩
   ·cases e
  ·rintro⟨⟨h1,_⟩,rfl⟩;rw [h1]
 refine⟨fun e=>?_,fun e b i _=>?_,fun e g ha=>?_⟩
 ·have:=(inv.1 e).2;cases this;exact a1B _
 ·have:=(inv.1 e).2;cases this;rfl
 ·obtain⟨e1,e2⟩:=inv.1 e;cases e2;exact⟨g,inv.2 ⟨by rw [ha b 0 (zB.2 ⟨rfl,by omega,by omega⟩)];exact e1,rfl⟩,zJ aBA⟩
def rJ (b:Nat) (o:Ob):Pr Unit:=fun h nx=>match at_ h b with
 | some (.obj _)=>some ((),pu h b (some (.obj o)),nx,[.cell b 0 1 true])
 | _=>none
theorem aHX (b:Nat) (o:Ob):iD (rJ b o):=by
 have inv:∀ {h nx q},rJ b o h nx=some q ↔ (∃ o',cv h b 0=some (.obj o'))/\q=((),pu h b (some (.obj o)),nx,[.cell b 0 1 true]):=by
  intro h nx q;unfold rJ cv;constructor
  ·intro e;split at e
   ·rename_i o' hb;cases e;exact⟨⟨o',rP.2 ⟨hb,rfl⟩⟩,rfl⟩
   ·cases e
  ·rintro⟨⟨o',h1⟩,rfl⟩;rw [(rP.1 h1).1]
 have hw:∀ {c i},W [.cell b 0 1 true] c i ↔ c=b/\i=0:=fun {c i}=>by rw [vD];show _/\_/\_/\_ ↔ _;simp
 have far:∀ (o:Ob) i,i≠0->cvB (some (.obj o)) i=none:=fun o i h=>by simp [cvB,h]
 refine⟨fun e=>?_,fun e c i hn=>?_,fun {h nx y h1 n1 m} e g ha=>?_⟩
 ·obtain⟨_,q⟩:=inv.1 e;cases q;exact a1B _
 ·obtain⟨⟨o',h0⟩,q⟩:=inv.1 e;cases q;rw [sT];split
  ·rename_i hc;subst hc
   have:i≠0:=fun e=>hn (hw.2 ⟨rfl,e⟩)
   unfold cv;rw [(rP.1 h0).1,far _ _ this,far _ _ this]
  ·rfl
 ·obtain⟨⟨o',h0⟩,q⟩:=inv.1 e;cases q;have hg:=(ha b 0 (W.t (hw.2 ⟨rfl,rfl⟩))).trans h0;refine⟨_,inv.2 ⟨⟨o',hg⟩,rfl⟩,aAs (fun c i h=>(hw.1 h).1) (fun _ _=>rfl) fun i h=>?_⟩
  have:i≠0:=fun e=>h (hw.2 ⟨rfl,e⟩)
  unfold cv;rw [(rP.1 hg).1,far _ _ this,far _ _ this]
theorem aCO {n0 n1:Nat} {f:Fp}:∀ {l:List Fp},f∈l->f∈dY n0 n1 l\/∀ b i,f.t b i->n0<=b/\b<n1
 | [],h=>by cases h
 | g :: l,h=>by
  have key:(dY n0 n1 (g :: l)=g :: dY n0 n1 l)\/(dY n0 n1 (g :: l)=dY n0 n1 l/\∀ b i,g.t b i->n0<=b/\b<n1):=by
   cases g with
   | cell b lo hi w=>
    have e:dY n0 n1 (.cell b lo hi w :: l)=bif Nat.blt b n0 then .cell b lo hi w :: dY n0 n1 l else bif Nat.blt b n1 then dY n0 n1 l else .cell b lo hi w :: dY n0 n1 l:=by
     show(Bool.rec (Bool.rec (Fp.cell b lo hi w :: dY n0 n1 l) (dY n0 n1 l) (Nat.blt b n1)) (Fp.cell b lo hi w :: dY n0 n1 l) (Nat.blt b n0):List Fp)=_
     cases Nat.blt b n0 <;> cases Nat.blt b n1 <;> rfl
    rw [e];cases h1:Nat.blt b n0 with
    | true=>exact .inl rfl
    | false=>
     cases h2:Nat.blt b n1 with
     | false=>exact .inl rfl
     | true=>
      refine .inr ⟨rfl,fun c i hc=>?_⟩
      obtain⟨rfl,_⟩:=hc;have h3:¬ c<n0:=fun hlt=>by rw [(a1x ▸ hlt:Nat.blt c n0=true)]at h1;cases h1
      exact⟨by omega,by rw [a1x]at h2;exact h2⟩
   | fresh m0 m1=>
    have e:dY n0 n1 (.fresh m0 m1 :: l)=bif Nat.ble n0 m0 then(bif Nat.ble m1 n1 then dY n0 n1 l else .fresh m0 m1 :: dY n0 n1 l) else .fresh m0 m1 :: dY n0 n1 l:=by
     show(Bool.rec (Fp.fresh m0 m1 :: dY n0 n1 l) (Bool.rec (Fp.fresh m0 m1 :: dY n0 n1 l) (dY n0 n1 l) (Nat.ble m1 n1)) (Nat.ble n0 m0):List Fp)=_
     cases Nat.ble n0 m0 <;> cases Nat.ble m1 n1 <;> rfl
    rw [e];cases h1:Nat.ble n0 m0 with
    | false=>exact .inl rfl
    | true=>
     cases h2:Nat.ble m1 n1 with
     | false=>exact .inl rfl
     | true=>
      refine .inr ⟨rfl,fun c i hc=>?_⟩
      have:=a1A h1;have:=a1A h2;have:m0<=c/\c<m1:=hc;omega
  rcases a1d.1 h with rfl | h
  ·rcases key with k | k
   ·exact .inl (by rw [k];exact .head _)
   ·exact .inr k.2
  ·rcases aCO h with o | o
   ·rcases key with k | k
    ·exact .inl (by rw [k];exact .tail _ o)
    ·exact .inl (by rw [k.1];exact o)
   ·exact .inr o
def kY (p:St):Pr (V × List Fp):=fun h nx=>match p h nx []with
 | some (.val v,s)=>some ((v, .fresh nx s.nx :: dY nx s.nx s.log),s.h,s.nx, .fresh nx s.nx :: dY nx s.nx s.log)
 | _=>none
theorem aDT {p:St} (hp:Loc p):iD (kY p):=by
 have inv:∀ {h nx q},kY p h nx=some q ↔ ∃ v s,p h nx []=some (.val v,s)/\q=((v, .fresh nx s.nx :: dY nx s.nx s.log),s.h,s.nx, .fresh nx s.nx :: dY nx s.nx s.log):=by
  intro h nx q;unfold kY;constructor
  ·intro e;split at e
   ·rename_i v s hs;cases e;exact⟨v,s,hs,rfl⟩
   ·cases e
  ·rintro⟨v,s,h1,rfl⟩;rw [h1]
 have sub:∀ {n0 n1 l b i},T l b i->T (.fresh n0 n1 :: dY n0 n1 l) b i:=fun {n0 n1 l b i} ⟨f,hf,ht⟩=>by
  rcases aCO hf with h | h
  ·exact⟨f, .tail _ h,ht⟩
  ·exact⟨_, .head _,h b i ht⟩
 have subw:∀ {n0 n1 l b i},W l b i->W (.fresh n0 n1 :: dY n0 n1 l) b i:=fun {n0 n1 l b i} ⟨f,hf,ht⟩=>by
  rcases aCO hf with h | h
  ·exact⟨f, .tail _ h,ht⟩
  ·exact⟨_, .head _,h b i (w_t ht)⟩
 refine⟨fun e=>?_,fun e b i hn=>?_,fun {h nx y h1 n1 m} e g ha=>?_⟩
 ·obtain⟨v,s,h1,q⟩:=inv.1 e;cases q;obtain⟨l,_,h2,_⟩:=hp.shape h1;exact h2
 ·obtain⟨v,s,h1,q⟩:=inv.1 e;cases q;obtain⟨l,h0,_,h3,_⟩:=hp.shape h1;simp only [a0v]at h0;subst h0;exact h3 b i fun w=>hn (subw w)
 ·obtain⟨v,s,h1,q⟩:=inv.1 e;cases q;obtain⟨l,h0,_,h3,h4⟩:=hp.shape h1;simp only [a0v]at h0;subst h0;obtain⟨g1,f1,d1⟩:=h4 g [] fun b i t=>ha b i (sub t)
  simp only [a0v]at f1;refine⟨g1,inv.2 ⟨v,_,f1,rfl⟩,fun b i hw=>?_,fun b i hw=>d1.out b i fun w=>hw (subw w)⟩
  by_cases hw':W s.log b i
  ·exact d1.inn b i hw'
  ·rw [d1.out b i hw',ha b i hw.t,h3 b i hw']
theorem ifN_eq {β:Type} (a b:Nat) (d p:β):ifN (Nat.blt a b) d p=if a<b then p else d:=by
 cases h:Nat.blt a b with
 | true=>rw [a1x]at h;rw [a1Y h];rfl
 | false=>rw [a1X fun e=>by rw [(a1x ▸ e:Nat.blt a b=true)]at h;cases h];rfl
section
variable {α:Type} (h:Tr Blk) (nx:Nat) (lg:List Fp)
def thn (pr:Pr α) (ih:α->St):St:=fun h nx lg=>match pr h nx with
 | none=>none
 | some (x,h1,n1,l)=>ih x h1 n1 (l++lg)
theorem rRd_eq (b off n:Nat) (ih:List V->St):rRd b off n ih h nx lg=thn (pRd b off n) ih h nx lg:=by
 unfold rRd thn pRd at_
 cases gp h (pa b)with
 | none=>rfl
 | some x=>cases x with
  | obj o=>rfl
  | cells c t op=>
   show opt (tk n (dr off c)) none _=_
   simp only [];cases tk n (dr off c)with
   | none=>rfl
   | some l=>
    show ifN (Nat.blt 0 n) none _=_
    rw [ifN_eq];by_cases hn:0<n
    ·simp only [a1Y hn];rfl
    ·simp only [a1X hn]
theorem rRd1_eq (b off:Nat) (ih:V->St):rRd1 b off ih h nx lg=thn (pRd1 b off) ih h nx lg:=by
 unfold rRd1 thn pRd1 at_
 cases gp h (pa b)with
 | none=>rfl
 | some x=>cases x with
  | obj o=>rfl
  | cells c t op=>
   show opt (nth c off) none _=_
   rw [mF];simp only [];cases c[off]? <;> rfl
theorem rWr_eq (b off:Nat) (l:List V) (ih:St):rWr b off l ih h nx lg=thn (pWr b off l) (fun _=>ih) h nx lg:=by
 unfold rWr thn pWr at_
 cases gp h (pa b)with
 | none=>rfl
 | some x=>cases x with
  | obj o=>rfl
  | cells c t op=>
   show opt (pl l off c) none _=_
   simp only [];cases pl l off c with
   | none=>rfl
   | some c'=>
    show pp h _ (pa b) _=_
    rw [nN,ifN_eq,ln0];by_cases hn:0<l.length
    ·simp only [a1Y hn];rfl
    ·simp only [a1X hn]
theorem rSz_eq (b:Nat) (ih:Nat->Nat->Nat->St):rSz b ih h nx lg=thn (pSz b) (fun x=>ih x.1 x.2.1 x.2.2) h nx lg:=by
 unfold rSz thn pSz at_
 cases gp h (pa b)with
 | none=>rfl
 | some x=>cases x with
  | obj o=>rfl
  | cells c t op=>
   show eO (ln c 0) none (fun n=>ih n t op h nx (.cell b n (Nat.succ n) false :: lg))=_
   rw [wH,ln0];rfl
theorem aD7 (x:Blk) (ih:Nat->St):rNew x ih h nx lg=thn (iX x) ih h nx lg:=by
 unfold rNew thn iX
 rw [wH]
 show opt (at_ h nx) _ _=_
 cases at_ h nx with
 | none=>
  show pp h _ (pa nx) _=_
  rw [nN];rfl
 | some x=>rfl
theorem rDel_eq (b:Nat) (ih:St):rDel b ih h nx lg=thn (pDel b) (fun _=>ih) h nx lg:=by
 unfold rDel thn pDel at_
 cases gp h (pa b)with
 | none=>rfl
 | some x=>cases x with
  | obj o=>rfl
  | cells c t op=>
   show pp h none (pa b) _=_
   rw [nN,ln0];rfl
theorem rGetO_eq (b:Nat) (ih:Ob->St):rGetO b ih h nx lg=thn (pX b) ih h nx lg:=by
 unfold rGetO thn pX at_
 cases gp h (pa b)with
 | none=>rfl
 | some x=>cases x with
  | obj o=>rfl
  | cells c t op=>rfl
theorem rSetO_eq (b:Nat) (o:Ob) (ih:St):rSetO b o ih h nx lg=thn (rJ b o) (fun _=>ih) h nx lg:=by
 unfold rSetO thn rJ at_
 cases gp h (pa b)with
 | none=>rfl
 | some x=>cases x with
  | obj o'=>
   show pp h _ (pa b) _=_
   rw [nN];rfl
  | cells c t op=>rfl
theorem rSub_eq (p:St) (ih:V->List Fp->St):rSub p ih h nx lg=thn (kY p) (fun x=>ih x.1 x.2) h nx lg:=by
 unfold rSub rSub1 thn kY
 cases p h nx []with
 | none=>rfl
 | some r=>
  obtain⟨o,s⟩:=r;cases o with
  | panic ch=>rfl
  | val v=>simp only [];rw [jH];rfl
end
theorem aBU (b off n:Nat) (k:List V->AJ):run (.rd b off n k)=thn (pRd b off n) fun x=>run (k x):=funext fun h=>funext fun nx=>funext fun lg=>rRd_eq h nx lg b off n fun x=>run (k x)
theorem aEY (b off:Nat) (k:V->AJ):run (.rd1 b off k)=thn (pRd1 b off) fun x=>run (k x):=funext fun h=>funext fun nx=>funext fun lg=>rRd1_eq h nx lg b off fun x=>run (k x)
theorem zC (b off:Nat) (l:List V) (k:AJ):run (.wr b off l k)=thn (pWr b off l) fun _=>run k:=funext fun h=>funext fun nx=>funext fun lg=>rWr_eq h nx lg b off l (run k)
theorem aBs (b:Nat) (k:Nat->Nat->Nat->AJ):run (.sz b k)=thn (pSz b) fun x=>run (k x.1 x.2.1 x.2.2):=funext fun h=>funext fun nx=>funext fun lg=>rSz_eq h nx lg b fun x y z=>run (k x y z)
theorem aAJ (c:List V) (t op:Nat) (k:Nat->AJ):run (.new c t op k)=thn (iX (.cells c t op)) fun x=>run (k x):=funext fun h=>funext fun nx=>funext fun lg=>aD7 h nx lg _ fun x=>run (k x)
theorem aER (b:Nat) (k:AJ):run (.del b k)=thn (pDel b) fun _=>run k:=funext fun h=>funext fun nx=>funext fun lg=>rDel_eq h nx lg b (run k)
theorem aA9 (o:Ob) (k:Nat->AJ):run (.newO o k)=thn (iX (.obj o)) fun x=>run (k x):=funext fun h=>funext fun nx=>funext fun lg=>aD7 h nx lg _ fun x=>run (k x)
theorem lV (b:Nat) (k:Ob->AJ):run (.getO b k)=thn (pX b) fun x=>run (k x):=funext fun h=>funext fun nx=>funext fun lg=>rGetO_eq h nx lg b fun x=>run (k x)
theorem tW (b:Nat) (o:Ob) (k:AJ):run (.setO b o k)=thn (rJ b o) fun _=>run k:=funext fun h=>funext fun nx=>funext fun lg=>rSetO_eq h nx lg b o (run k)
theorem aDS (p:AJ) (k:V->List Fp->AJ):run (.sub p k)=thn (kY (run p)) fun x=>run (k x.1 x.2):=funext fun h=>funext fun nx=>funext fun lg=>rSub_eq h nx lg (run p) fun x y=>run (k x y)
theorem gS:∀ p:AJ,Loc (run p)
 | .ret o=>⟨fun {h nx lg r} e=>by cases e;exact⟨[],rfl,a1B _,fun _ _ _=>rfl,fun g lg2 _=>⟨g,rfl,zJ fun _ _=>aDh⟩⟩⟩
 | .fail=>⟨fun e=>by cases e⟩
 | .rd b off n k=>Loc.seq (pRd_loc b off n) (fun x=>gS (k x)) fun h nx lg=>by rw [aBU];rfl
 | .rd1 b off k=>Loc.seq (pRd1_loc b off) (fun x=>gS (k x)) fun h nx lg=>by rw [aEY];rfl
 | .wr b off l k=>Loc.seq (pWr_loc b off l) (fun _=>gS k) fun h nx lg=>by rw [zC];rfl
 | .sz b k=>Loc.seq (pSz_loc b) (fun x=>gS (k x.1 x.2.1 x.2.2)) fun h nx lg=>by rw [aBs];rfl
 | .new c t op k=>Loc.seq (aDg (.cells c t op)) (fun x=>gS (k x)) fun h nx lg=>by rw [aAJ];rfl
 | .del b k=>Loc.seq (pDel_loc b) (fun _=>gS k) fun h nx lg=>by rw [aER];rfl
 | .newO o k=>Loc.seq (aDg (.obj o)) (fun x=>gS (k x)) fun h nx lg=>by rw [aA9];rfl
 | .getO b k=>Loc.seq (aJi b) (fun x=>gS (k x)) fun h nx lg=>by rw [lV];rfl
 | .setO b o k=>Loc.seq (aHX b o) (fun _=>gS k) fun h nx lg=>by rw [tW];rfl
 | .sub p k=>Loc.seq (aDT (gS p)) (fun x=>gS (k x.1 x.2)) fun h nx lg=>by rw [aDS];rfl
end
noncomputable section
abbrev Rho:=Nat->Option (Nat × Nat)
def Rho.le (ρ ρ':Rho):Prop:=∀ b x,ρ b=some x->ρ' b=some x
theorem Rho.le_refl (ρ:Rho):ρ.le ρ:=fun _ _ h=>h
theorem Rho.le_trans {a b c:Rho} (h:a.le b) (k:b.le c):a.le c:=fun x y e=>k x y (h x y e)
mutual
def tv (ρ:Rho):V->Option Value
 | .int k n=>some (.int k n)
 | .bool b=>some (.bool b)
 | .str s=>some (.string s)
 | .ptr b off=>(ρ b).map fun x=> .pointer (some ⟨x.1,off,none⟩)
 | .nilp=>some (.pointer none)
 | .sl b off len cap=>(ρ b).map fun x=> .slice (some ⟨x.1,off,none⟩) len cap
 | .so b off len es=>(ρ b).map fun x=> .slice (some ⟨x.1,off,none⟩) len (x.2 - off / es)
 | .nils=>some (.slice none 0 0)
 | .map b=>(ρ b).map fun x=> .map (some x.1)
 | .nilm=>some (.map none)
 | .fn f a c=>match tvs ρ a with
  | some x=>match tvs ρ c with
   | some y=>some (.func (.func f) ⟨x⟩ ⟨y⟩)
   | none=>none
  | none=>none
 | .yld l=>(ρ l).map fun x=> .func (.yield x.1) #[] #[]
 | .nilf=>some .nilFunc
 | .iface t v=>match tv ρ v with
  | some x=>some (.iface t x)
  | none=>none
 | .nili=>some .nilIface
 | .agg cs=>match iC cs with
  | true=>match tvs ρ cs with
   | some l=>some (.agg ⟨l⟩)
   | none=>none
  | false=>none
 | .tup vs=>match tvs ρ vs with
  | some l=>some (.tuple ⟨l⟩)
  | none=>none
def tvs (ρ:Rho):List V->Option (List Value)
 | []=>some []
 | v :: l=>match tv ρ v with
  | some x=>match tvs ρ l with
   | some r=>some (x :: r)
   | none=>none
  | none=>none
end
theorem wJ {α:Type} {ρ ρ':Rho} (h:ρ.le ρ') {b:Nat} {f:Nat × Nat->α} {y:α} (e:(ρ b).map f=some y):(ρ' b).map f=some y:=by
 cases hb:ρ b with
 | none=>rw [hb]at e;cases e
 | some x=>rw [h b x hb];rw [hb]at e;exact e
mutual
theorem nO {ρ ρ':Rho} (h:ρ.le ρ'):∀ (v:V) {x:Value},tv ρ v=some x->tv ρ' v=some x
 | .int _ _,_,e=>e
 | .bool _,_,e=>e
 | .str _,_,e=>e
 | .ptr _ _,_,e=>wJ h e
 | .nilp,_,e=>e
 | .sl _ _ _ _,_,e=>wJ h e
 | .so _ _ _ _,_,e=>wJ h e
 | .nils,_,e=>e
 | .map _,_,e=>wJ h e
 | .nilm,_,e=>e
 | .fn f a c,x,e=>by
  simp only [tv]at e ⊢;cases ha:tvs ρ a with
  | none=>rw [ha]at e;cases e
  | some y=>
   rw [ha]at e;cases hc:tvs ρ c with
   | none=>rw [hc]at e;cases e
   | some z=>rw [hc]at e;rw [qU h a ha,qU h c hc];exact e
 | .yld _,_,e=>wJ h e
 | .nilf,_,e=>e
 | .iface t v,x,e=>by
  simp only [tv]at e ⊢;cases ha:tv ρ v with
  | none=>rw [ha]at e;cases e
  | some y=>rw [ha]at e;rw [nO h v ha];exact e
 | .nili,_,e=>e
 | .agg cs,x,e=>by
  simp only [tv]at e ⊢;cases hc:iC cs with
  | false=>rw [hc]at e;cases e
  | true=>
   rw [hc]at e;simp only at e ⊢
   cases ha:tvs ρ cs with
   | none=>rw [ha]at e;cases e
   | some y=>rw [ha]at e;rw [qU h cs ha];exact e
 | .tup cs,x,e=>by
  simp only [tv]at e ⊢;cases ha:tvs ρ cs with
  | none=>rw [ha]at e;cases e
  | some y=>rw [ha]at e;rw [qU h cs ha];exact e
theorem qU {ρ ρ':Rho} (h:ρ.le ρ'):∀ (l:List V) {x:List Value},tvs ρ l=some x->tvs ρ' l=some x
 | [],_,e=>e
 | v :: l,x,e=>by
  simp only [tvs]at e ⊢;cases ha:tv ρ v with
  | none=>rw [ha]at e;cases e
  | some y=>
   rw [ha]at e;cases hc:tvs ρ l with
   | none=>rw [hc]at e;cases e
   | some z=>rw [hc]at e;rw [nO h v ha,qU h l hc];exact e
end
theorem eF {ρ:Rho} {v:V} {l:List V} {r:List Value}:tvs ρ (v :: l)=some r ↔ ∃ x y,tv ρ v=some x/\tvs ρ l=some y/\r=x :: y:=by
 simp only [tvs]
 cases tv ρ v with
 | none=>simp
 | some x=>cases tvs ρ l with
  | none=>simp
  | some y=>simp [eq_comm]
theorem tD {ρ:Rho} {r:List Value}:tvs ρ []=some r ↔ r=[]:=by simp [tvs,eq_comm]
theorem lS {ρ:Rho}:∀ {l m:List V} {r:List Value},tvs ρ (l++m)=some r ↔ ∃ x y,tvs ρ l=some x/\tvs ρ m=some y/\r=x++y
 | [],m,r=>by
  constructor
  ·intro h;exact⟨[],r,rfl,h,rfl⟩
  ·rintro⟨x,y,h1,h2,rfl⟩;rw [tD]at h1;subst h1;exact h2
 | v :: l,m,r=>by
  rw [a0w,eF];constructor
  ·rintro⟨x,y,h1,h2,rfl⟩
   obtain⟨a,b,h3,h4,rfl⟩:=lS.1 h2;exact⟨x :: a,b,eF.2 ⟨x,a,h1,h3,rfl⟩,h4,rfl⟩
  ·rintro⟨a,b,h1,h2,rfl⟩
   obtain⟨x,y,h3,h4,rfl⟩:=eF.1 h1;exact⟨x,y++b,h3,lS.2 ⟨y,b,h4,h2,rfl⟩,rfl⟩
theorem uL {ρ:Rho}:∀ {l:List V} {r:List Value},tvs ρ l=some r->r.length=l.length
 | [],r,h=>by rw [tD]at h;subst h;rfl
 | v :: l,r,h=>by
  obtain⟨x,y,_,h2,rfl⟩:=eF.1 h;simp [uL h2]
theorem aA1 {ρ:Rho}:∀ {l:List V} {r:List Value} {i:Nat} {v:V},tvs ρ l=some r->l[i]? =some v->∃ x,r[i]? =some x/\tv ρ v=some x
 | [],_,_,_,_,h=>by simp at h
 | u :: l,r,0,v,h,e=>by
  obtain⟨x,y,h1,h2,rfl⟩:=eF.1 h;simp only [a0G,a1P]at e ⊢;subst e;exact⟨x,rfl,h1⟩
 | u :: l,r,i+1,v,h,e=>by
  obtain⟨x,y,h1,h2,rfl⟩:=eF.1 h;simp only [a0F]at e ⊢;exact aA1 h2 e
theorem aE0 {ρ:Rho} {l:List V} {r:List Value} (n:Nat) (h:tvs ρ l=some r):tvs ρ (l.take n)=some (r.take n)/\tvs ρ (l.drop n)=some (r.drop n):=by
 have h':=h
 rw [<- List.take_append_drop n l,lS]at h'
 obtain⟨x,y,h1,h2,rfl⟩:=h'
 have hx:=uL h1
 have hy:=uL h2
 simp only [List.length_take,a0S]at hx hy
 by_cases hn:n<=l.length
 ·have:x.length=n:=by omega
  rw [h1,h2,List.take_left' this,List.drop_left' this];exact⟨rfl,rfl⟩
 ·have hy0:y=[]:=a0y (by omega)
  subst hy0;rw [h1,h2,a0v,a1s (by omega),a0x (by omega)];exact⟨rfl,rfl⟩
def dQ:Value->Prop
 | .agg _ | .tuple _=>False
 | _=>True
theorem tF {v:V} {l:List V}:iC (v :: l)=true ↔ isC v=true/\iC l=true:=by
 simp only [iC];cases isC v <;> simp
theorem pJ:∀ {l:List V},iC l=true ↔ ∀ v∈l,isC v=true
 | []=>by simp [iC]
 | v :: l=>by rw [tF,pJ (l:=l)];simp
theorem aBM {ρ:Rho}:∀ {v:V} {x:Value},isC v=true->tv ρ v=some x->dQ x
 | .int _ _,_,_,e=>by cases e;trivial
 | .bool _,_,_,e=>by cases e;trivial
 | .str _,_,_,e=>by cases e;trivial
 | .ptr _ _,_,_,e=>by simp only [tv,a1M]at e;obtain⟨y,_,rfl⟩:=e;trivial
 | .nilp,_,_,e=>by cases e;trivial
 | .sl _ _ _ _,_,_,e=>by simp only [tv,a1M]at e;obtain⟨y,_,rfl⟩:=e;trivial
 | .so _ _ _ _,_,_,e=>by simp only [tv,a1M]at e;obtain⟨y,_,rfl⟩:=e;trivial
 | .nils,_,_,e=>by cases e;trivial
 | .map _,_,_,e=>by simp only [tv,a1M]at e;obtain⟨y,_,rfl⟩:=e;trivial
 | .nilm,_,_,e=>by cases e;trivial
 | .fn _ a c,x,_,e=>by
  simp only [tv]at e;cases ha:tvs ρ a with
  | none=>rw [ha]at e;cases e
  | some y=>rw [ha]at e;cases hc:tvs ρ c with
   | none=>rw [hc]at e;cases e
   | some z=>rw [hc]at e;cases e;trivial
 | .yld _,_,_,e=>by simp only [tv,a1M]at e;obtain⟨y,_,rfl⟩:=e;trivial
 | .nilf,_,_,e=>by cases e;trivial
 | .iface _ v,x,_,e=>by
  simp only [tv]at e;cases ha:tv ρ v with
  | none=>rw [ha]at e;cases e
  | some y=>rw [ha]at e;cases e;trivial
 | .nili,_,_,e=>by cases e;trivial
 | .agg _,_,h,_=>by cases h
 | .tup _,_,h,_=>by cases h
def cells (ρ:Rho) (l:List V) (r:List Value):Prop:=iC l=true/\tvs ρ l=some r
theorem cells.is {ρ:Rho}:∀ {l:List V} {r:List Value},cells ρ l r->∀ x∈r,dQ x
 | [],r,h,x,hx=>by rw [tD.1 h.2]at hx;cases hx
 | v :: l,r,h,x,hx=>by
  obtain⟨y,z,h1,h2,rfl⟩:=eF.1 h.2;obtain⟨h3,h4⟩:=tF.1 h.1;rcases a1d.1 hx with rfl | hx
  ·exact aBM h3 h1
  ·exact cells.is ⟨h4,h2⟩ x hx
theorem cells.mono {ρ ρ':Rho} (h:ρ.le ρ') {l:List V} {r:List Value} (c:cells ρ l r):cells ρ' l r:=⟨c.1,qU h l c.2⟩
theorem cells.app {ρ:Rho} {l m:List V} {r s:List Value} (c:cells ρ l r) (d:cells ρ m s):cells ρ (l++m) (r++s):=
 ⟨pJ.2 fun v hv=>by
  rcases a1a.1 hv with h | h
  ·exact pJ.1 c.1 v h
  ·exact pJ.1 d.1 v h,lS.2 ⟨r,s,c.2,d.2,rfl⟩⟩
theorem cells.take {ρ:Rho} {l:List V} {r:List Value} (c:cells ρ l r) (n:Nat):cells ρ (l.take n) (r.take n):=⟨pJ.2 fun v hv=>pJ.1 c.1 v (List.mem_of_mem_take hv),(aE0 n c.2).1⟩
theorem cells.drop {ρ:Rho} {l:List V} {r:List Value} (c:cells ρ l r) (n:Nat):cells ρ (l.drop n) (r.drop n):=⟨pJ.2 fun v hv=>pJ.1 c.1 v (List.mem_of_mem_drop hv),(aE0 n c.2).2⟩
theorem cells.len {ρ:Rho} {l:List V} {r:List Value} (c:cells ρ l r):r.length=l.length:=uL c.2
theorem cells.nil {ρ:Rho}:cells ρ [] []:=⟨rfl,rfl⟩
theorem cells.get {ρ:Rho} {l:List V} {r:List Value} (c:cells ρ l r) {i:Nat} {v:V} (h:l[i]? =some v):∃ x,r[i]? =some x/\tv ρ v=some x/\isC v=true:=
 let ⟨x,h1,h2⟩:=aA1 c.2 h
 ⟨x,h1,h2,pJ.1 c.1 v (a1h h)⟩
theorem dQ.cells {v:Value} (h:dQ v):v.cells=#[v]:=by cases v <;> first | rfl | exact h.elim
theorem gZ {ρ:Rho} {v:V} {x:Value} (hc:isC v=true) (e:tv ρ v=some x):vc v=some [v]/\BX.cells ρ [v] x.cells.toList:=
 ⟨(by cases v <;> first | rfl | cases hc),tF.2 ⟨hc,rfl⟩,eF.2 ⟨x,[],e,rfl,by rw [(aBM hc e).cells]⟩⟩
theorem aBf {ρ:Rho} {cs:List V} {x:Value} (e:tv ρ (.agg cs)=some x):∃ l,cells ρ cs l/\x= .agg ⟨l⟩:=by
 simp only [tv]at e
 cases hc:iC cs with
 | false=>rw [hc]at e;cases e
 | true=>
  rw [hc]at e;simp only at e
  cases ha:tvs ρ cs with
  | none=>rw [ha]at e;cases e
  | some y=>rw [ha]at e;cases e;exact⟨y,⟨hc,ha⟩,rfl⟩
theorem vU {ρ:Rho}:∀ {v:V} {x:Value} {c:List V},vc v=some c->tv ρ v=some x->BX.cells ρ c x.cells.toList
 | .agg cs,x,c,h,e=>by
  obtain⟨l,h1,rfl⟩:=aBf e;cases h;exact h1
 | .tup _,_,_,h,_=>by cases h
 | .int _ _,_,_,h,e=>by cases h;exact(gZ rfl e).2
 | .bool _,_,_,h,e=>by cases h;exact(gZ rfl e).2
 | .str _,_,_,h,e=>by cases h;exact(gZ rfl e).2
 | .ptr _ _,_,_,h,e=>by cases h;exact(gZ rfl e).2
 | .nilp,_,_,h,e=>by cases h;exact(gZ rfl e).2
 | .sl _ _ _ _,_,_,h,e=>by cases h;exact(gZ rfl e).2
 | .so _ _ _ _,_,_,h,e=>by cases h;exact(gZ rfl e).2
 | .nils,_,_,h,e=>by cases h;exact(gZ rfl e).2
 | .map _,_,_,h,e=>by cases h;exact(gZ rfl e).2
 | .nilm,_,_,h,e=>by cases h;exact(gZ rfl e).2
 | .fn _ _ _,_,_,h,e=>by cases h;exact(gZ rfl e).2
 | .yld _,_,_,h,e=>by cases h;exact(gZ rfl e).2
 | .nilf,_,_,h,e=>by cases h;exact(gZ rfl e).2
 | .iface _ _,_,_,h,e=>by cases h;exact(gZ rfl e).2
 | .nili,_,_,h,e=>by cases h;exact(gZ rfl e).2
theorem aAt {ρ:Rho} {cs:List V} {l:List Value} (h:cells ρ cs l):tv ρ (.agg cs)=some (.agg ⟨l⟩):=by
 simp only [tv,h.1,h.2]
def entR (ρ:Rho) (e:Ent) (m:MapEntry):Prop:=tv ρ e.key=some m.key/\tv ρ e.val=some m.val/\m.born=e.born
def kS (ρ:Rho):List Ent->List MapEntry->Prop
 | [],[]=>True
 | e :: es,m :: ms=>entR ρ e m/\kS ρ es ms
 | _,_=>False
structure bY (ρ:Rho) (e:Tr V) (n:Nat) (a:Array Value):Prop where
 size:a.size=n
 get:∀ t v,at_ e t=some v->∃ x,a[t]? =some x/\tv ρ v=some x
def obR (ρ:Rho):Ob->Obj->Prop
 | .map es c, .map ms c'=>c'=c/\kS ρ es ms.toList
 | .loop st p _ e n ps sg bd d, .loop r=>r.state=st/\r.pending=p/\bY ρ e n r.tmps/\r.params.toList=ps/\r.assign=sg/\r.body=bd/\∃ x,ρ d=some x/\r.defers=x.1
 | .dfr l, .deferred c=>c=if l then some [] else none
 | _,_=>False
def blkR (ρ:Rho) (κ:Nat):Blk->Obj->Prop
 | .cells c t op, .cells a t' fz=>t'=t/\fz=(0,0)/\∃ l junk,cells ρ c l/\a=⟨l++junk⟩/\(op=0->junk=[])/\(0<op->l.length+junk.length=κ*op)
 | .obj o,o'=>obR ρ o o'
 | _,_=>False
structure G where
 w:World
 lo:Nat
 hi:Nat
 ρ:Rho
structure Rel (g:G) (ρ:Rho) (h:Tr Blk) (nx:Nat) (w:World):Prop where
 blk:∀ b k,at_ h b=some k->∃ x o,ρ b=some x/\w.heap[x.1]? =some o/\blkR ρ x.2 k o
 inj:∀ b b' x x',at_ h b≠none->at_ h b'≠none->ρ b=some x->ρ b'=some x'->x.1=x'.1->b=b'
 new:∀ b x,ρ b=some x->g.w.heap.size<=x.1
 below:RowKit.Below g.w.heap.size g.w w
 lo:g.lo<=nx
 fresh:∀ b,nx<=b->b<g.hi->ρ b=none
 le:g.ρ.le ρ
 out:∀ b,b<g.lo\/g.hi<=b->ρ b=g.ρ b
theorem entR.mono {ρ ρ':Rho} (h:ρ.le ρ') {e:Ent} {m:MapEntry} (r:entR ρ e m):entR ρ' e m:=⟨nO h _ r.1,nO h _ r.2.1,r.2.2⟩
theorem kS.mono {ρ ρ':Rho} (h:ρ.le ρ'):∀ {es:List Ent} {ms:List MapEntry},kS ρ es ms->kS ρ' es ms
 | [],[],_=>trivial
 | _ :: _,_ :: _,r=>⟨r.1.mono h,kS.mono h r.2⟩
 | [],_ :: _,r=>r.elim
 | _ :: _,[],r=>r.elim
theorem bY.mono {ρ ρ':Rho} (h:ρ.le ρ') {e:Tr V} {n:Nat} {a:Array Value} (r:bY ρ e n a):bY ρ' e n a:=
 ⟨r.size,fun t v ht=>let ⟨x,h1,h2⟩:=r.get t v ht;⟨x,h1,nO h v h2⟩⟩
theorem obR.mono {ρ ρ':Rho} (h:ρ.le ρ') {o:Ob} {o':Obj} (r:obR ρ o o'):obR ρ' o o':=by
 cases o with
 | map es c=>cases o' <;> first | exact⟨r.1,r.2.mono h⟩ | exact r.elim
 | loop st p f e n ps sg bd d=>
  cases o' <;> first
   | (obtain⟨h1,h2,h3,h4,h5,h6,x,h7,h8⟩:=r;exact⟨h1,h2,h3.mono h,h4,h5,h6,x,h _ _ h7,h8⟩)
   | exact r.elim
 | dfr b=>cases o' <;> exact r
theorem blkR.mono {ρ ρ':Rho} (h:ρ.le ρ') {κ:Nat} {k:Blk} {o:Obj} (r:blkR ρ κ k o):blkR ρ' κ k o:=by
 cases k with
 | obj o'=>exact obR.mono h r
 | cells c t op=>
  cases o <;> first
   | (obtain⟨h1,h2,l,j,h3,h4⟩:=r;exact⟨h1,h2,l,j,h3.mono h,h4⟩)
   | exact r.elim
end
open RowKit (Below)
noncomputable section
section
variable {h:Tr Blk} {nx:Nat} {lg:List Fp} {r:O × S}
theorem kQ {α:Type} {o:Option α} {p:AJ} {f:α->AJ} (e:run (opt o p f) h nx lg=some r):(o=none/\run p h nx lg=some r)\/∃ a,o=some a/\run (f a) h nx lg=some r:=by
 cases o with
 | none=>exact .inl ⟨rfl,e⟩
 | some a=>exact .inr ⟨a,rfl,e⟩
theorem bU {α:Type} {o:Option α} {f:α->AJ} (e:run (oo o f) h nx lg=some r):∃ a,o=some a/\run (f a) h nx lg=some r:=by
 rcases kQ e with⟨_,e⟩ | e
 ·cases e
 ·exact e
theorem gC {x:Operand} {e:Tr V} {f:V->AJ} (q:run (cR x e f) h nx lg=some r):∃ v,ev x e=some v/\run (f v) h nx lg=some r:=bU (o:=ev x e) (f:=f) q
theorem sW {x y:Operand} {e:Tr V} {f:V->V->AJ} (q:run (dX x y e f) h nx lg=some r):∃ v u,ev x e=some v/\ev y e=some u/\run (f v u) h nx lg=some r:=by
 obtain⟨v,h1,q⟩:=bU (o:=ev x e) (f:=fun v=>oo (ev y e) (f v)) q
 obtain⟨u,h2,q⟩:=bU q
 exact⟨v,u,h1,h2,q⟩
theorem aDD {x y z:Operand} {e:Tr V} {f:V->V->V->AJ} (q:run (eM x y z e f) h nx lg=some r):∃ v u t,ev x e=some v/\ev y e=some u/\ev z e=some t/\run (f v u t) h nx lg=some r:=by
 obtain⟨v,h1,q⟩:=gC q
 obtain⟨u,t,h2,h3,q⟩:=sW q
 exact⟨v,u,t,h1,h2,h3,q⟩
theorem kC {l:List Operand} {e:Tr V} {f:List V->AJ} (q:run (eX l e f) h nx lg=some r):∃ vs,evs l e=some vs/\run (f vs) h nx lg=some r:=bU q
theorem aCK {x:Option Operand} {e:Tr V} {f:Option V->AJ} (q:run (yB x e f) h nx lg=some r):∃ v,evO x e=some v/\run (f v) h nx lg=some r:=bU q
theorem dR {b:Bool} {p:AJ} (q:run (dJ b p) h nx lg=some r):b=true/\run p h nx lg=some r:=by
 cases b with
 | true=>exact⟨rfl,q⟩
 | false=>cases q
theorem gW {b:Bool} {p p':AJ} (q:run (ife b p p') h nx lg=some r):(b=true/\run p h nx lg=some r)\/(b=false/\run p' h nx lg=some r):=by
 cases b with
 | true=>exact .inl ⟨rfl,q⟩
 | false=>exact .inr ⟨rfl,q⟩
theorem wE {v:V} {f:Nat->Nat->AJ} (q:run (vN v f) h nx lg=some r):∃ b off,v= .ptr b off/\run (f b off) h nx lg=some r:=by
 cases v <;> first
  | exact⟨_,_,rfl,q⟩
  | cases q
theorem aGq {v:V} {f:Bool->AJ} (q:run (asBool v f .fail) h nx lg=some r):∃ b,v= .bool b/\run (f b) h nx lg=some r:=by
 cases v <;> first
  | exact⟨_,rfl,q⟩
  | cases q
theorem aHt {v:V} {f:List V->AJ} (q:run (asTup v f) h nx lg=some r):∃ l,v= .tup l/\run (f l) h nx lg=some r:=by
 cases v <;> first
  | exact⟨_,rfl,q⟩
  | cases q
theorem aB3 {v:V} {f:Nat->AJ} {p:AJ} (q:run (asMap v f p) h nx lg=some r):(∃ b,v= .map b/\run (f b) h nx lg=some r)\/(v= .nilm/\run p h nx lg=some r):=by
 cases v <;> first
  | exact .inl ⟨_,rfl,q⟩
  | exact .inr ⟨rfl,q⟩
  | cases q
theorem aCE {v:V} {f:Nat->V->AJ} {p:AJ} (q:run (asIf v f p) h nx lg=some r):(∃ t u,v= .iface t u/\run (f t u) h nx lg=some r)\/(v= .nili/\run p h nx lg=some r):=by
 cases v <;> first
  | exact .inl ⟨_,_,rfl,q⟩
  | exact .inr ⟨rfl,q⟩
  | cases q
theorem aCM {v:V} {f:Nat->List V->List V->AJ} {y:Nat->AJ} (q:run (asFn v f y) h nx lg=some r):(∃ g a c,v= .fn g a c/\run (f g a c) h nx lg=some r)\/(∃ l,v= .yld l/\run (y l) h nx lg=some r):=by
 cases v <;> first
  | exact .inl ⟨_,_,_,rfl,q⟩
  | exact .inr ⟨_,rfl,q⟩
  | cases q
theorem sX {v:V} {f:Nat->Nat->Nat->Nat->AJ} {f':Nat->Nat->Nat->Nat->AJ} {p d:AJ} (q:run (asSl v f f' p d) h nx lg=some r):
 (∃ b off len cap,v= .sl b off len cap/\run (f b off len cap) h nx lg=some r)\/(∃ b off len es,v= .so b off len es/\run (f' b off len es) h nx lg=some r)\/(v= .nils/\run p h nx lg=some r)\/run d h nx lg=some r:=by
 cases v <;> first
  | exact .inl ⟨_,_,_,_,rfl,q⟩
  | exact .inr (.inl ⟨_,_,_,_,rfl,q⟩)
  | exact .inr (.inr (.inl ⟨rfl,q⟩))
  | exact .inr (.inr (.inr q))
theorem aFi {v:V} {f:IntKind->Int->AJ} {d:AJ} (q:run (wO v f d) h nx lg=some r):(∃ k n,v= .int k n/\run (f k n) h nx lg=some r)\/run d h nx lg=some r:=by
 cases v <;> first
  | exact .inl ⟨_,_,rfl,q⟩
  | exact .inr q
theorem aF9 {v:V} {f:List V->AJ} {d:AJ} (q:run (asAgg v f d) h nx lg=some r):(∃ cs,v= .agg cs/\run (f cs) h nx lg=some r)\/run d h nx lg=some r:=by
 cases v <;> first
  | exact .inl ⟨_,rfl,q⟩
  | exact .inr q
theorem aBr {v:V} {f:ByteArray->AJ} {d:AJ} (q:run (wS v f d) h nx lg=some r):(∃ s,v= .str s/\run (f s) h nx lg=some r)\/run d h nx lg=some r:=by
 cases v <;> first
  | exact .inl ⟨_,rfl,q⟩
  | exact .inr q
theorem dU {α:Type} {pr:Pr α} {k:α->St} (q:thn pr k h nx lg=some r):∃ x h1 n1 l,pr h nx=some (x,h1,n1,l)/\k x h1 n1 (l++lg)=some r:=by
 unfold thn at q
 cases hq:pr h nx with
 | none=>rw [hq]at q;cases q
 | some y=>
  obtain⟨x,h1,n1,l⟩:=y;rw [hq]at q;exact⟨x,h1,n1,l,rfl,q⟩
theorem xN {v:V} {n:Nat} (q:qJ v=some n):∃ k,v= .int k (.ofNat n):=by
 cases v <;> try (cases q;done)
 rename_i k i
 cases i with
 | ofNat m=>exact⟨k,by cases q;rfl⟩
 | negSucc m=>cases q
theorem rZ {p:AJ} (q:run p h nx lg=some r):nx<=r.2.nx:=let ⟨_,_,h2,_⟩:=(gS p).shape q;h2
end
mutual
theorem vS (ρ:Rho):∀ (c:Value) {v:V},ofC c=some v->tv ρ v=some c
 | .int _ _,_,e=>by cases e;rfl
 | .bool _,_,e=>by cases e;rfl
 | .float _ _,_,e=>by cases e
 | .complex _ _ _,_,e=>by cases e
 | .string _,_,e=>by cases e;rfl
 | .pointer none,_,e=>by cases e;rfl
 | .pointer (some _),_,e=>by cases e
 | .slice none 0 0,_,e=>by cases e;rfl
 | .slice none 0 (_+1),_,e=>by cases e
 | .slice none (_+1) _,_,e=>by cases e
 | .slice (some _) _ _,_,e=>by cases e
 | .map none,_,e=>by cases e;rfl
 | .map (some _),_,e=>by cases e
 | .chan _,_,e=>by cases e
 | .func _ _ _,_,e=>by cases e
 | .nilFunc,_,e=>by cases e;rfl
 | .nilIface,_,e=>by cases e;rfl
 | .iface t c,v,e=>by
  simp only [ofC]at e;cases h:ofC c with
  | none=>rw [h]at e;cases e
  | some x=>rw [h]at e;cases e;simp only [tv,vS ρ c h]
 | .agg cs,v,e=>by
  simp only [ofC]at e;cases h:ofA cs with
  | none=>rw [h]at e;cases e
  | some l=>
   rw [h]at e;simp only at e
   cases hc:iC l with
   | false=>rw [hc]at e;cases e
   | true=>rw [hc]at e;cases e;simp only [tv,hc,ofA_tv ρ cs h]
 | .tuple cs,v,e=>by
  simp only [ofC]at e;cases h:ofA cs with
  | none=>rw [h]at e;cases e
  | some l=>rw [h]at e;cases e;simp only [tv,ofA_tv ρ cs h]
theorem ofA_tv (ρ:Rho):∀ (cs:Array Value) {l:List V},ofA cs=some l->tvs ρ l=some cs.toList
 | ⟨l⟩,_,e=>ofL_tv ρ l e
theorem ofL_tv (ρ:Rho):∀ (cs:List Value) {l:List V},ofL cs=some l->tvs ρ l=some cs
 | [],_,e=>by cases e;rfl
 | c :: cs,l,e=>by
  simp only [ofL]at e;cases h:ofC c with
  | none=>rw [h]at e;cases e
  | some x=>
   rw [h]at e;simp only at e
   cases h2:ofL cs with
   | none=>rw [h2]at e;cases e
   | some y=>rw [h2]at e;cases e;exact eF.2 ⟨c,cs,vS ρ c h,ofL_tv ρ cs h2,rfl⟩
end
theorem dG {ρ:Rho} {e:Tr V} {n:Nat} {a:Act} (he:bY ρ e n a.tmps):∀ {x:Operand} {v:V},ev x e=some v->tv ρ v=some (a.eval x)
 | .tmp t,v,q=>by
  obtain⟨x,h1,h2⟩:=he.get t v q;rw [h2];simp [Act.eval,a0b,h1]
 | .const c,v,q=>vS ρ c q
 | .global _,_,q=>by cases q
 | .func f,v,q=>by cases q;rfl
theorem jL {ρ:Rho} {e:Tr V} {n:Nat} {a:Act} (he:bY ρ e n a.tmps):∀ {l:List Operand} {vs:List V},evs l e=some vs->tvs ρ vs=some (l.map a.eval)
 | [],vs,q=>by cases q;rfl
 | x :: l,vs,q=>by
  have q':(Option.rec none (fun v=>Option.rec none (fun vs=>some (v :: vs)) (evs l e)) (ev x e):Option (List V))=some vs:=q
  cases h1:ev x e with
  | none=>rw [h1]at q';cases q'
  | some v=>
   rw [h1]at q';cases h2:evs l e with
   | none=>simp only [h2]at q';cases q'
   | some us=>
    simp only [h2]at q';cases q';exact eF.2 ⟨_,_,dG he h1,jL he h2,rfl⟩
theorem bY.put {ρ:Rho} {e:Tr V} {n:Nat} {a:Act} (he:bY ρ e n a.tmps) {t:Nat} (ht:t<n) {v:V} {x:Value} (hv:tv ρ v=some x):bY ρ (pu e t (some v)) n (a.put (some t) x).tmps:=by
 refine⟨by simp [Act.put,he.size],fun s u hu=>?_⟩
 rw [gA]at hu
 by_cases hs:s=t
 ·subst hs;rw [a1Y rfl]at hu;cases hu
  exact⟨x,by simp [Act.put,he.size,ht],hv⟩
 ·rw [a1X hs]at hu;obtain⟨y,h1,h2⟩:=he.get s u hu;exact⟨y,by simp [Act.put,a0f (Ne.symm hs),h1],h2⟩
theorem Rel.lt {g:G} {ρ:Rho} {h:Tr Blk} {nx:Nat} {w:World} (R:Rel g ρ h nx w) {b:Nat} {k:Blk} (e:at_ h b=some k):∃ x o,ρ b=some x/\w.heap[x.1]? =some o/\blkR ρ x.2 k o/\x.1<w.heap.size:=by
 obtain⟨x,o,h1,h2,h3⟩:=R.blk b k e
 exact⟨x,o,h1,h2,h3,SX.heap_lt h2⟩
theorem Rel.row {g:G} {ρ:Rho} {h:Tr Blk} {nx:Nat} {w:World} (R:Rel g ρ h nx w) {b:Nat} {c:List V} {t op:Nat} (e:at_ h b=some (.cells c t op)):
 ∃ x l junk,ρ b=some x/\w.heap[x.1]? =some (.cells ⟨l++junk⟩ t (0,0))/\cells ρ c l/\(op=0->junk=[])/\(0<op->l.length+junk.length=x.2*op):=by
 obtain⟨x,o,h1,h2,h3⟩:=R.blk b _ e
 cases o <;> first
  | (obtain⟨rfl,rfl,l,j,h4,rfl,h5,h6⟩:=h3;exact⟨x,l,j,h1,h2,h4,h5,h6⟩)
  | exact h3.elim
theorem yM (b off i:Nat):Addr.add ⟨b,off,none⟩ i=⟨b,off+i,none⟩:=by
 unfold Addr.add;split
 ·subst_vars;rfl
 ·rfl
theorem yD {w:World} {x:Nat} {a:Array Value} {t:Nat} {fz:Nat × Nat} (h:w.heap[x]? =some (.cells a t fz)) (i:Nat):w.cell? ⟨x,i,none⟩=a[i]?:=by
 simp [World.cell?,h]
theorem aC3 {P:Program} {g:G} {ρ:Rho} {h:Tr Blk} {nx:Nat} {w:World} (R:Rel g ρ h nx w) {b off n:Nat} {l:List V} {h1:Tr Blk} {n1:Nat} {m:List Fp}
 (e:pRd b off n h nx=some (l,h1,n1,m)):∃ x r,ρ b=some x/\(loadCells ⟨x.1,off,none⟩ n).run P w= .ok ⟨r⟩ w/\cells ρ l r/\l.length=n/\h1=h/\n1=nx:=by
 unfold pRd at e
 split at e
 ·rename_i c t op hb;split at e
  ·rename_i l' htk;split at e
   ·cases e;obtain⟨x,cl,junk,hx,hw,hc,_,_⟩:=R.row hb;rw [dr_eq,xF]at htk;obtain⟨h2,rfl⟩:=htk;simp only [a0S]at h2;have hcl:=hc.len;have hlen:((cl.drop off).take n).length=n:=by simp;omega
    refine⟨x,(cl.drop off).take n,hx,?_,(hc.drop off).take n,by simp;omega,rfl,rfl⟩
    have:=SX.run_loadCellsFrom (P:=P) (w:=w) (p:=⟨x.1,off,none⟩) ((cl.drop off).take n) 0 #[] (fun j v hj=>by
     rw [yM,yD hw];have hjn:j<n:=by have:=(a0K.1 hj).1;omega
     rw [a0O hjn,a0H]at hj;rw [a0P,a1J,a0D (a0K.1 hj).1];exact hj)
    rw [hlen]at this;unfold loadCells;rw [this];simp
   ·cases e
  ·cases e
 ·cases e
theorem aHu {g:G} {ρ:Rho} {h:Tr Blk} {nx:Nat} {w:World} (R:Rel g ρ h nx w) {b off:Nat} {v:V} {h1:Tr Blk} {n1:Nat} {m:List Fp}
 (e:pRd1 b off h nx=some (v,h1,n1,m)):∃ x u,ρ b=some x/\w.cell? ⟨x.1,off,none⟩=some u/\tv ρ v=some u/\isC v=true/\h1=h/\n1=nx:=by
 obtain⟨e1,e2⟩:=xC.1 e
 cases e2
 obtain⟨c,t,op,hb,hv⟩:=mA.1 e1
 obtain⟨x,cl,junk,hx,hw,hc,_,_⟩:=R.row hb
 obtain⟨u,h2,h3,h4⟩:=hc.get hv
 refine⟨x,u,hx,?_,h3,h4,rfl,rfl⟩
 rw [yD hw,a0P,a0D (a0K.1 h2).1];exact h2
theorem Rel.ext {g:G} {ρ:Rho} {h h':Tr Blk} {nx:Nat} {w:World} (R:Rel g ρ h nx w) (e:∀ b,at_ h' b=at_ h b):Rel g ρ h' nx w:=
 ⟨fun b k q=>R.blk b k (by rw [<- e];exact q),fun b b' x x' p q=>R.inj b b' x x' (by rw [<- e];exact p) (by rw [<- e];exact q),R.new,R.below,R.lo,R.fresh,R.le,R.out⟩
theorem Rel.write {g:G} {ρ:Rho} {h:Tr Blk} {nx:Nat} {w w':World} (R:Rel g ρ h nx w) {b:Nat} {x:Nat × Nat} {k k':Blk} {o':Obj} (hb:at_ h b=some k) (hx:ρ b=some x) (hw:w'.heap[x.1]? =some o')
 (ho:∀ c,c≠x.1->w'.heap[c]? =w.heap[c]?) (hsz:w'.heap.size=w.heap.size) (hos:w'.os=w.os) (hout:w'.output=w.output) (htp:w'.tape=w.tape) (hk:blkR ρ x.2 k' o'):Rel g ρ (pu h b (some k')) nx w':=by
 refine⟨fun c q hc=>?_,fun c c' y y' h1 h2 h3 h4 h5=>?_,R.new,⟨hos.trans R.below.os,htp.trans R.below.tape,hout.trans R.below.output,by rw [hsz];exact R.below.size,fun c hc=>?_⟩,R.lo,R.fresh,R.le,R.out⟩
 ·rw [gA]at hc;by_cases e:c=b
  ·subst e;rw [a1Y rfl]at hc;cases hc;exact⟨x,o',hx,hw,hk⟩
  ·rw [a1X e]at hc;obtain⟨y,o,h1,h2,h3⟩:=R.blk c q hc;refine⟨y,o,h1,?_,h3⟩;rw [ho y.1 fun e2=>e (R.inj c b y x (by rw [hc];simp) (by rw [hb];simp) h1 hx e2)];exact h2
 ·refine R.inj c c' y y' (fun e=>h1 ?_) (fun e=>h2 ?_) h3 h4 h5
  ·rw [gA];split
   ·subst_vars;rw [hb]at e;cases e
   ·exact e
  ·rw [gA];split
   ·subst_vars;rw [hb]at e;cases e
   ·exact e
 ·have:=R.new b x hx;rw [ho c (by omega)];exact R.below.block c hc
theorem aFU {w:World} {b off:Nat} {a:Array Value} {t:Nat} {fz:Nat × Nat} (h:w.heap[b]? =some (.cells a t fz)) (u:Value):
 (w.setCell ⟨b,off,none⟩ u).heap[b]? =some (.cells (a.setIfInBounds off u) t fz):=SX.setCell_self w ⟨b,off,none⟩ u h rfl
theorem aC7 {α:Type} {c l:List α} {off:Nat} {v:α} (h:off+(v :: l).length<=c.length):((c.set off v).take (off+1)++l++(c.set off v).drop (off+1+l.length))=c.take off++(v :: l)++c.drop (off+(v :: l).length):=by
 simp only [a0R]at h
 have h2:(c.set off v).take (off+1)=c.take off++[v]:=by
  rw [List.take_set,a1t (by omega),List.set_append_right _ _ (by simp;omega)];simp [a1G (by omega:off<=c.length)]
 have h3:(c.set off v).drop (off+1+l.length)=c.drop (off+(v :: l).length):=by
  rw [List.drop_set,a1Y (by omega)];congr 1;simp;omega
 rw [h2,h3];simp
theorem aHn {ρ:Rho} {c:List V} {l:List Value} (h:cells ρ c l) {i:Nat} {v:V} {u:Value} (hv:isC v=true) (e:tv ρ v=some u) (hi:i<c.length):cells ρ (c.set i v) (l.set i u):=by
 have hl:=h.len
 have e1:c.set i v=c.take i++v :: c.drop (i+1):=by rw [List.set_eq_take_append_cons_drop,a1Y hi]
 have e2:l.set i u=l.take i++u :: l.drop (i+1):=by rw [List.set_eq_take_append_cons_drop,a1Y (by omega)]
 rw [e1,e2]
 have h1:cells ρ [v] [u]:=⟨tF.2 ⟨hv,rfl⟩,eF.2 ⟨u,[],e,rfl,rfl⟩⟩
 exact(h.take i).app (h1.app (h.drop (i+1)))
theorem aGy {P:Program} {g:G} {ρ:Rho} {nx:Nat} {b t op:Nat} {x:Nat × Nat}:∀ (l:List V) (r:List Value) (off:Nat) (c:List V) (h:Tr Blk) (w:World) (k i:Nat),Rel g ρ h nx w->at_ h b=some (.cells c t op)->ρ b=some x ->
 cells ρ l r->off+l.length<=c.length->off=k+i->∃ w',(storeCells ⟨x.1,k,none⟩ r i).run P w= .ok () w'/\Rel g ρ (pu h b (some (.cells (c.take off++l++c.drop (off+l.length)) t op))) nx w'
 | [],r,off,c,h,w,k,i,R,hb,hx,hc,hle,hk=>by
  rw [tD.1 hc.2];refine⟨w,rfl,R.ext fun d=>?_⟩
  rw [gA];split
  ·subst_vars;rw [hb];simp
  ·rfl
 | v :: l,r,off,c,h,w,k,i,R,hb,hx,hc,hle,hk=>by
  obtain⟨u,r,h1,h2,rfl⟩:=eF.1 hc.2;obtain⟨h3,h4⟩:=tF.1 hc.1;obtain⟨y,cl,junk,hy,hw,hcc,hj0,hj1⟩:=R.row hb;rw [hx]at hy;cases hy
  have hlen:=hcc.len;have hoff:off<c.length:=by simp at hle;omega
  have hcell:w.cell? ⟨x.1,off,none⟩=some (cl[off]'(by omega)):=by
   rw [yD hw,a0P,a0D (by omega)];simp
  have hfr:w.frozen? ⟨x.1,off,none⟩=false:=by simp [World.frozen?,hw]
  have hrun:(Go.store ⟨x.1,off,none⟩ u).run P w= .ok () (w.setCell ⟨x.1,off,none⟩ u):=SX.run_store (P:=P) (by
   have:=aBM h3 h1;cases u <;> first | exact this.elim | trivial) hcell hfr
  have hcc':=aHn hcc h3 h1 hoff;have R':Rel g ρ (pu h b (some (.cells (c.set off v) t op))) nx (w.setCell ⟨x.1,off,none⟩ u):=
   R.write hb hx (aFU hw u) (fun d hd=>SX.setCell_other w ⟨x.1,off,none⟩ u hd) (SX.setCell_size _ _ _) rfl rfl rfl
    ⟨rfl,rfl,cl.set off u,junk,hcc',by simp [List.set_append_left _ _ (by omega:off<cl.length)],hj0,fun h=>by simp;exact hj1 h⟩
  obtain⟨w',hr,hR⟩:=aGy (P:=P) l r (off+1) (c.set off v) _ _ k (i+1) R' at_same hx ⟨h4,h2⟩ (by simp at hle ⊢;omega) (by omega)
  refine⟨w',?_,hR.ext fun d=>?_⟩
  ·have e0:Addr.add ⟨x.1,k,none⟩ i=⟨x.1,off,none⟩:=by rw [yM,hk]
   simp only [storeCells,a1R,e0,hrun];exact hr
  ·rw [gA,gA];split
   ·rw [aC7 hle]
   ·rw [at_ne (by assumption)]
theorem zX {P:Program} {g:G} {ρ:Rho} {h:Tr Blk} {nx:Nat} {w:World} (R:Rel g ρ h nx w) {b off:Nat} {l:List V} {r:List Value} {h1:Tr Blk} {n1:Nat} {m:List Fp}
 (e:pWr b off l h nx=some ((),h1,n1,m)) (hc:cells ρ l r):∃ x w',ρ b=some x/\(storeCells ⟨x.1,off,none⟩ r).run P w= .ok () w'/\Rel g ρ h1 n1 w':=by
 unfold pWr at e
 split at e
 ·rename_i c t op hb;split at e
  ·rename_i c' hpl;split at e
   ·cases e;obtain⟨h2,rfl⟩:=(tU l off c c').1 hpl;obtain⟨x,_,_,hx,_⟩:=R.row hb;obtain⟨w',h3,h4⟩:=aGy (P:=P) l r off c h w off 0 R hb hx hc h2 rfl;exact⟨x,w',hx,h3,h4⟩
   ·cases e
  ·cases e
 ·cases e
def Rho.ins (ρ:Rho) (b:Nat) (x:Nat × Nat):Rho:=fun c=>if c=b then some x else ρ c
theorem Rho.le_ins {ρ:Rho} {b:Nat} {x:Nat × Nat} (h:ρ b=none):ρ.le (ρ.ins b x):=fun c y e=>by
 unfold Rho.ins;split
 ·subst c;rw [h]at e;cases e
 ·exact e
theorem Rho.ins_self {ρ:Rho} {b:Nat} {x:Nat × Nat}:ρ.ins b x b=some x:=by simp [Rho.ins]
theorem zA {g:G} {ρ:Rho} {h:Tr Blk} {nx:Nat} {w:World} (R:Rel g ρ h nx w) {k:Blk} {b:Nat} {h1:Tr Blk} {n1:Nat} {m:List Fp}
 (e:iX k h nx=some (b,h1,n1,m)) (hi:n1<=g.hi) (κ:Nat) (o:Obj) (hk:blkR (ρ.ins nx (w.heap.size,κ)) κ k o):b=nx/\ρ.le (ρ.ins nx (w.heap.size,κ))/\Rel g (ρ.ins nx (w.heap.size,κ)) h1 n1 (w.alloc o):=by
 unfold iX at e
 split at e
 ·rename_i h0;cases e;have hn:ρ nx=none:=R.fresh nx (a1B _) hi;have hle:=Rho.le_ins (x:=(w.heap.size,κ)) hn;have hnew:(w.alloc o).heap[w.heap.size]? =some o:=by show(w.heap.push o)[w.heap.size]? =_;simp
  refine⟨rfl,hle,⟨fun c q hc=>?_,fun c c' y y' h1 h2 h3 h4 h5=>?_,fun c y hy=>?_,R.below.alloc R.below.size o,Nat.le_succ_of_le R.lo,fun c hc hc2=>?_,Rho.le_trans R.le hle,fun c hc=>?_⟩⟩
  ·rw [gA]at hc;by_cases e:c=nx
   ·subst e;rw [a1Y rfl]at hc;cases hc;exact⟨_,o,Rho.ins_self,hnew,hk⟩
   ·rw [a1X e]at hc;obtain⟨y,o2,h1,h2,h3,h4⟩:=R.lt hc;exact⟨y,o2,hle _ _ h1,by rw [Below.heap_alloc w o y.1 h4];exact h2,h3.mono hle⟩
  ·have key:∀ {d:Nat} {z:Nat × Nat},at_ (pu h nx (some k)) d≠none->ρ.ins nx (w.heap.size,κ) d=some z->(d=nx/\z.1=w.heap.size)\/(d≠nx/\at_ h d≠none/\ρ d=some z/\z.1<w.heap.size):=fun {d z} hd hz=>by
    by_cases e:d=nx
    ·subst e;rw [Rho.ins_self]at hz;cases hz;exact .inl ⟨rfl,rfl⟩
    ·rw [at_ne e]at hd;have hz':ρ d=some z:=by simpa [Rho.ins,e] using hz
     refine .inr ⟨e,hd,hz',?_⟩;cases hq:at_ h d with
     | none=>exact absurd hq hd
     | some q=>
      obtain⟨y,o2,g1,g2,_,g4⟩:=R.lt hq;rw [hz']at g1;cases g1;exact g4
   rcases key h1 h3 with⟨a1,a2⟩ | ⟨a1,a2,a3,a4⟩ <;> rcases key h2 h4 with⟨b1,b2⟩ | ⟨b1,b2,b3,b4⟩
   ·omega
   ·omega
   ·omega
   ·exact R.inj c c' y y' a2 b2 a3 b3 h5
  ·unfold Rho.ins at hy;split at hy
   ·cases hy;exact R.below.size
   ·exact R.new c y hy
  ·have:c≠nx:=by omega
   simp only [Rho.ins,a1X this];exact R.fresh c (by omega) hc2
  ·have:=R.lo;have:c≠nx:=by omega
   simp only [Rho.ins,a1X this];exact R.out c hc
 ·cases e
theorem aIZ {g:G} {ρ:Rho} {h:Tr Blk} {nx:Nat} {w:World} (R:Rel g ρ h nx w) {b:Nat} {h1:Tr Blk} {n1:Nat} {m:List Fp} (e:pDel b h nx=some ((),h1,n1,m)):Rel g ρ h1 n1 w:=by
 unfold pDel at e
 split at e
 ·cases e;refine⟨fun c q hc=>?_,fun c c' y y' h1 h2=>R.inj c c' y y' (fun e=>h1 ?_) (fun e=>h2 ?_),R.new,R.below,R.lo,R.fresh,R.le,R.out⟩
  ·rw [gA]at hc;split at hc
   ·cases hc
   ·exact R.blk c q hc
  ·rw [gA];split
   ·rfl
   ·exact e
  ·rw [gA];split
   ·rfl
   ·exact e
 ·cases e
theorem nK {g:G} {ρ:Rho} {h:Tr Blk} {nx:Nat} {w:World} (R:Rel g ρ h nx w) {b:Nat} {o:Ob} {h1:Tr Blk} {n1:Nat} {m:List Fp} (e:pX b h nx=some (o,h1,n1,m)):
 ∃ x o',ρ b=some x/\w.heap[x.1]? =some o'/\obR ρ o o'/\at_ h b=some (.obj o)/\h1=h/\n1=nx:=by
 unfold pX at e
 split at e
 ·rename_i hb;cases e
  obtain⟨x,o',h1,h2,h3⟩:=R.blk b _ hb;exact⟨x,o',h1,h2,h3,hb,rfl,rfl⟩
 ·cases e
theorem uT {g:G} {ρ:Rho} {h:Tr Blk} {nx:Nat} {w:World} (R:Rel g ρ h nx w) {b:Nat} {o:Ob} {x:Nat × Nat} {o1:Obj} {h1:Tr Blk} {n1:Nat} {m:List Fp} (e:rJ b o h nx=some ((),h1,n1,m)) (hx:ρ b=some x) (ho:obR ρ o o1):
 Rel g ρ h1 n1 { w with heap:=w.heap.setIfInBounds x.1 o1 }:=by
 unfold rJ at e
 split at e
 ·rename_i o0 hb;cases e
  obtain⟨y,o',h1,h2,h3,h4⟩:=R.lt hb;rw [hx]at h1;cases h1
  refine R.write hb hx ?_ (fun c hc=>?_) (by simp) rfl rfl rfl ho
  ·simp [h4]
  ·simp [a0f (Ne.symm hc)]
 ·cases e
end
open RowKit (Below)
noncomputable section
section
variable {P:Program}
theorem sL {t:Nat} {i:TypeInfo} (h:info P t=some i):P.info? t=some i:=by
 have e:at_ (uC P.types.toList 0 .leaf fun t=>t) t=some i:=h
 rw [aBE]at e
 split at e
 ·rename_i hlt;have:t<P.types.size:=by simpa using hlt.2
  unfold Tables.info?
  rw [a1Y this];simpa using e
 ·rw [xP]at e;cases e
theorem dV {t:Nat} {d:TypeDesc} (h:und P t=some d):P.underlying t=some d:=by
 unfold und at h
 unfold Program.underlying
 cases hi:info P t with
 | none=>rw [hi]at h;cases h
 | some i=>
  rw [hi]at h;rw [sL hi];simp only [und1]at h ⊢;obtain⟨desc,a1,a2,a3,a4,a5,a6,a7,a8,a9⟩:=i;cases desc <;> first
   | exact h
   | (rename_i nm u
      simp only at h ⊢
      cases hu:info P u with
      | none=>rw [hu]at h;cases h
      | some j=>rw [hu]at h;rw [sL hu];exact h)
theorem uJ {t n:Nat} (h:szT P t=some n):∃ i,P.info? t=some i/\i.size=n:=by
 unfold szT at h
 cases hi:info P t with
 | none=>rw [hi]at h;cases h
 | some i=>rw [hi]at h;cases h;exact⟨i,sL hi,rfl⟩
theorem zer_tv {t:Nat} {z:V} (ρ:Rho) (h:zer P t=some z):∃ i zv,P.info? t=some i/\i.zero=some zv/\tv ρ z=some zv:=by
 unfold zer at h
 cases hi:info P t with
 | none=>rw [hi]at h;cases h
 | some i=>
  rw [hi]at h;simp only at h
  cases hz:i.zero with
  | none=>rw [hz]at h;cases h
  | some zv=>rw [hz]at h;exact⟨i,zv,sL hi,hz,vS ρ zv h⟩
theorem kZ {t:Nat} {z:V} {ρ:Rho} (h:zer P t=some z) (w:World):∃ zv,(zeroValue t).run P w= .ok zv w/\tv ρ z=some zv:=by
 obtain⟨i,zv,h1,h2,h3⟩:=zer_tv ρ h
 exact⟨zv,by simp [zeroValue,a1R,SX.run_typeInfo h1,h2,Sem.run,pure],h3⟩
theorem zE {t n:Nat} (h:szT P t=some n) (w:World):(sizeOf t).run P w= .ok n w:=by
 obtain⟨i,h1,rfl⟩:=uJ h
 exact SX.run_sizeOf h1 w
theorem aFj {t:Nat} {s:Option Nat} (h:shp P t=some s) (w:World):(isAgg t).run P w= .ok s.isSome w/\∀ n,s=some n->(sizeOf t).run P w= .ok n w:=by
 unfold shp at h
 cases hu:und P t with
 | none=>rw [hu]at h;cases h
 | some d=>
  rw [hu]at h;have hU:=SX.run_underlying (dV hu) w;cases d <;> simp only at h <;> first
   | (cases h;exact⟨by simp [isAgg,a1R,hU,Sem.run,pure],fun n e=>by cases e⟩)
   | (cases hs:szT P t with
      | none=>rw [hs]at h;cases h
      | some m=>rw [hs]at h;cases h;exact⟨by simp [isAgg,a1R,hU,Sem.run,pure],fun n e=>by cases e;exact zE hs w⟩)
end
def OkV (P:Program) (o:Oper) (a:Act) (w:World) (g:G) (ρ:Rho) (r:O × S) (kv:KV):Prop:=
 ∃ v x ρ' h' nx' lg' w',((execOp a.eval o).run P w= .ok (.value x) w'\/((execOp a.eval o).run P w= .ok .skip w'/\x=undef))/\ρ.le ρ'/\Rel g ρ' h' nx' w'/\tv ρ' v=some x/\run (kv v) h' nx' lg'=some r
section
variable {P:Program} {o:Oper} {a:Act} {w:World} {g:G} {ρ:Rho} {r:O × S} {kv:KV} {kp:List PE->AJ} {kd:Df->AJ} {e:Tr V} {n:Nat} {h:Tr Blk} {nx:Nat} {lg:List Fp} {ex:Ex}
theorem OkV.pure {v:V} {x:Value} (R:Rel g ρ h nx w) (hx:(execOp a.eval o).run P w= .ok (.value x) w) (ht:tv ρ v=some x) (q:run (kv v) h nx lg=some r):OkV P o a w g ρ r kv:=
 ⟨v,x,ρ,h,nx,lg,w, .inl hx,Rho.le_refl ρ,R,ht,q⟩
theorem qZ {k:IntKind} {n:Int} {x:Value} (h:tv ρ (.int k n)=some x):x= .int k n:=by cases h;rfl
theorem aEy {b:Bool} {x:Value} (h:tv ρ (.bool b)=some x):x= .bool b:=by cases h;rfl
theorem lJ {b off:Nat} {x:Value} (h:tv ρ (.ptr b off)=some x):∃ y,ρ b=some y/\x= .pointer (some ⟨y.1,off,none⟩):=by
 simp only [tv,a1M]at h
 obtain⟨y,h1,rfl⟩:=h;exact⟨y,h1,rfl⟩
theorem tv_tup {l:List V} {x:Value} (h:tv ρ (.tup l)=some x):∃ r,tvs ρ l=some r/\x= .tuple ⟨r⟩:=by
 simp only [tv]at h
 cases ha:tvs ρ l with
 | none=>rw [ha]at h;cases h
 | some r=>rw [ha]at h;cases h;exact⟨r,rfl,rfl⟩
theorem s_move {x:Operand} (ho:o.op= .move x\/o.op= .assign x) (he:bY ρ e n a.tmps) (R:Rel g ρ h nx w) (q:run (oY x P ex e kv kp kd) h nx lg=some r):OkV P o a w g ρ r kv:=by
 obtain⟨v,h1,q1⟩:=gC q
 exact .pure R (by rcases ho with ho | ho <;> simp [execOp,ho,Sem.run,Pure.pure]) (dG he h1) q1
theorem s_pick {c x y:Operand} (ho:o.op= .pick c x y) (he:bY ρ e n a.tmps) (R:Rel g ρ h nx w) (q:run (yA c x y P ex e kv kp kd) h nx lg=some r):OkV P o a w g ρ r kv:=by
 obtain⟨v,u,t,h1,h2,h3,q1⟩:=aDD q
 obtain⟨b,rfl,q2⟩:=aGq q1
 have hb:=aEy (dG he h1)
 cases b with
 | true=>exact .pure R (by simp [execOp,ho,hb,Go.asBool,a1R,Sem.run,Pure.pure]) (dG he h2) q2
 | false=>exact .pure R (by simp [execOp,ho,hb,Go.asBool,a1R,Sem.run,Pure.pure]) (dG he h3) q2
theorem aEm {t:Nat} {s:Option Nat} {b off:Nat} {y:Nat × Nat} {k:V->AJ} (R:Rel g ρ h nx w) (hs:shp P t=some s) (hb:ρ b=some y) (q:run (loadS s b off k) h nx lg=some r):
 ∃ v x lg',(loadVar t ⟨y.1,off,none⟩).run P w= .ok x w/\tv ρ v=some x/\run (k v) h nx lg'=some r:=by
 obtain⟨hA,hsz⟩:=aFj hs w
 rcases kQ q with⟨rfl,q1⟩ | ⟨m,rfl,q1⟩
 ·rw [aEY]at q1;obtain⟨v,h1,n1,l,e1,q2⟩:=dU q1;obtain⟨x,u,h2,h3,h4,_,rfl,rfl⟩:=aHu R e1;rw [hb]at h2;cases h2
  exact⟨v,u,_,by simp [loadVar,a1R,hA,Go.load,Sem.run,h3],h4,q2⟩
 ·have hm:=hsz m rfl;rcases gW q1 with⟨h0,q3⟩ | ⟨_,q3⟩
  ·have:=a1y h0;subst this;exact⟨.agg [], .agg #[],lg,by simp [loadVar,a1R,hA,hm,loadCells,loadCellsFrom,Sem.run,Pure.pure],rfl,q3⟩
  ·rw [aBU]at q3;obtain⟨v,h1,n1,l,e1,q4⟩:=dU q3;obtain⟨x,rr,h2,h3,h4,_,rfl,rfl⟩:=aC3 (P:=P) R e1;rw [hb]at h2;cases h2
   exact⟨.agg v, .agg ⟨rr⟩,_,by simp [loadVar,a1R,hA,hm,h3,Sem.run,Pure.pure],aAt h4,q4⟩
theorem s_load {t:Nat} {x:Operand} (ho:o.op= .load t x) (he:bY ρ e n a.tmps) (R:Rel g ρ h nx w) (q:run (zD t x P ex e kv kp kd) h nx lg=some r):OkV P o a w g ρ r kv:=by
 obtain⟨v,h1,q1⟩:=gC q
 obtain⟨s,hs,q2⟩:=bU q1
 obtain⟨b,off,rfl,q3⟩:=wE q2
 obtain⟨y,hb,hx⟩:=lJ (dG he h1)
 obtain⟨u,z,lg',h2,h3,q4⟩:=aEm R hs hb q3
 exact .pure R (by simp [execOp,ho,hx,Instr.loadAt,Instr.sureAddr,a1R,h2,Sem.run,Pure.pure]) h3 q4
theorem s_store {t:Nat} {x y:Operand} (ho:o.op= .store t x y) (he:bY ρ e n a.tmps) (R:Rel g ρ h nx w) (q:run (wU t x y P ex e kv kp kd) h nx lg=some r):OkV P o a w g ρ r kv:=by
 obtain⟨p,v,h1,h2,q1⟩:=sW q
 obtain⟨sz,hs,q2⟩:=bU q1
 obtain⟨b,off,rfl,q3⟩:=wE q2
 obtain⟨c,hc,q4⟩:=bU q3
 obtain⟨hlen,q5⟩:=dR q4
 rw [ln0]at hlen
 have hlen:=a1y hlen
 obtain⟨y',hb,hx⟩:=lJ (dG he h1)
 have hcc:=vU hc (dG he h2)
 have hl:=hcc.len
 have hsz:=zE hs w
 rcases gW q5 with⟨h0,q6⟩ | ⟨_,q6⟩
 ·have:=a1y h0;subst this;have h0':(a.eval y).cells.toList=[]:=a0y (by omega)
  have h0s:(a.eval y).cells.size=0:=by rw [<- a0h,h0'];rfl
  refine⟨eL,undef,ρ,h,nx,lg,w, .inr ⟨?_,rfl⟩,Rho.le_refl ρ,R,rfl,q6⟩;simp [execOp,ho,hx,Instr.storeAt,Instr.sureAddr,storeVar,a1R,hsz,h0s,h0',storeCells,Sem.run,Pure.pure]
 ·rw [zC]at q6;obtain⟨_,h1',n1,l,e1,q7⟩:=dU q6;obtain⟨y2,w',g1,g2,g3⟩:=zX (P:=P) R e1 hcc;rw [hb]at g1;cases g1
  have h0s:(a.eval y).cells.size=sz:=by rw [<- a0h];omega
  refine⟨eL,undef,ρ,h1',n1,_,w', .inr ⟨?_,rfl⟩,Rho.le_refl ρ,g3,rfl,q7⟩;simp [execOp,ho,hx,Instr.storeAt,Instr.sureAddr,storeVar,a1R,hsz,h0s,g2,Sem.run,Pure.pure]
theorem aAy {c:List V} {l:List Value} {t:Nat} {k:Nat->AJ} (R:Rel g ρ h nx w) (hc:cells ρ c l) (hi:r.2.nx<=g.hi) (q:run (.new c t 0 k) h nx lg=some r):
 ∃ b ρ' h' nx' lg',(Go.newRow t ⟨l⟩).run P w= .ok ⟨w.heap.size,0,none⟩ (w.alloc (.cells ⟨l⟩ t))/\ρ.le ρ'/\Rel g ρ' h' nx' (w.alloc (.cells ⟨l⟩ t))/\(∃ κ,ρ' b=some (w.heap.size,κ))/\run (k b) h' nx' lg'=some r:=by
 rw [aAJ]at q
 obtain⟨b,h1,n1,m,e1,q1⟩:=dU q
 have hn1:=a1C (rZ q1) hi
 have hn:ρ nx=none:=by
  unfold iX at e1;split at e1
  ·cases e1;exact R.fresh nx (a1B _) hn1
  ·cases e1
 have hle:=Rho.le_ins (x:=(w.heap.size,0)) hn
 obtain⟨rfl,h2,h3⟩:=zA R e1 hn1 0 (.cells ⟨l⟩ t) ⟨rfl,rfl,l,[],hc.mono hle,by simp,fun _=>rfl,fun h=>absurd h (Nat.lt_irrefl 0)⟩
 exact⟨b,_,h1,n1,_,by simp [newRow,newObj,a1R,Sem.run,Pure.pure],h2,h3,⟨0,Rho.ins_self⟩,q1⟩
theorem xB {b off:Nat} {x κ:Nat} (h:ρ b=some (x,κ)):tv ρ (.ptr b off)=some (.pointer (some ⟨x,off,none⟩)):=by simp [tv,h]
theorem s_alloc {t:Nat} (ho:o.op= .alloc t) (hi:r.2.nx<=g.hi) (R:Rel g ρ h nx w) (q:run (zO t P ex e kv kp kd) h nx lg=some r):OkV P o a w g ρ r kv:=by
 obtain⟨z,hz,q1⟩:=bU q
 obtain⟨c,hc,q2⟩:=bU q1
 obtain⟨zv,h1,h2⟩:=kZ (ρ:=ρ) hz w
 obtain⟨b,ρ',h',nx',lg',g1,g2,g3,⟨κ,g4⟩,q3⟩:=aAy (P:=P) R (vU hc h2) hi q2
 refine⟨.ptr b 0,_,ρ',h',nx',lg',_, .inl ?_,g2,g3,xB g4,q3⟩
 simp [execOp,ho,Instr.alloc,a1R,h1,newVar,g1,Sem.run,Pure.pure]
theorem s_box {t:Nat} {x:Operand} (ho:o.op= .box t x) (he:bY ρ e n a.tmps) (hi:r.2.nx<=g.hi) (R:Rel g ρ h nx w) (q:run (hBox t x P ex e kv kp kd) h nx lg=some r):OkV P o a w g ρ r kv:=by
 obtain⟨v,h1,q1⟩:=gC q
 obtain⟨c,hc,q2⟩:=bU q1
 obtain⟨b,ρ',h',nx',lg',g1,g2,g3,⟨κ,g4⟩,q3⟩:=aAy (P:=P) R (vU hc (dG he h1)) hi q2
 refine⟨.ptr b 0,_,ρ',h',nx',lg',_, .inl ?_,g2,g3,xB g4,q3⟩
 simp [execOp,ho,Instr.box,a1R,newVar,g1,Sem.run,Pure.pure]
theorem s_nil {x:Operand} (ho:o.op= .nilCheck x) (he:bY ρ e n a.tmps) (R:Rel g ρ h nx w) (q:run (hNil x P ex e kv kp kd) h nx lg=some r):OkV P o a w g ρ r kv:=by
 obtain⟨v,h1,q1⟩:=gC q
 have ht:=dG he h1
 have key:run (kv v) h nx lg=some r/\(execOp a.eval o).run P w= .ok (.value (a.eval x)) w:=by
  cases v <;> first
   | (cases q1;done)
   | skip
  ·obtain⟨y,_,hx⟩:=lJ ht;exact⟨q1,by simp [execOp,ho,hx,Sem.run,Pure.pure]⟩
  ·simp only [tv]at ht;rename_i f a1 c1;cases ha:tvs ρ a1 with
   | none=>rw [ha]at ht;cases ht
   | some y=>
    rw [ha]at ht;simp only at ht
    cases hc:tvs ρ c1 with
    | none=>rw [hc]at ht;cases ht
    | some z=>rw [hc]at ht;simp only [a1P]at ht;exact⟨q1,by simp [execOp,ho,<- ht,Sem.run,Pure.pure]⟩
  ·simp only [tv,a1M]at ht;obtain⟨y,_,hx⟩:=ht;exact⟨q1,by simp [execOp,ho,<- hx,Sem.run,Pure.pure]⟩
 exact .pure R key.2 ht key.1
theorem s_ext {x:Operand} {i:Nat} (ho:o.op= .extract x i) (he:bY ρ e n a.tmps) (R:Rel g ρ h nx w) (q:run (hExt x i P ex e kv kp kd) h nx lg=some r):OkV P o a w g ρ r kv:=by
 obtain⟨v,h1,q1⟩:=gC q
 obtain⟨l,rfl,q2⟩:=aHt q1
 obtain⟨u,h2,q3⟩:=bU q2
 obtain⟨rr,h3,hx⟩:=tv_tup (dG he h1)
 rw [mF]at h2
 obtain⟨y,h4,h5⟩:=aA1 h3 h2
 exact .pure R (by simp [execOp,ho,hx,Instr.extract,h4,a1R,Sem.run,Pure.pure]) h5 q3
theorem aEL {t:Nat} (hh:noIf P t=true):∃ d,P.underlying t=some d/\∀ ms,d≠ .interface ms:=by
 unfold noIf at hh
 cases hu:und P t with
 | none=>rw [hu]at hh;cases hh
 | some d=>
  refine⟨d,dV hu,fun ms e=>?_⟩
  subst e;rw [hu]at hh;cases hh
theorem s_mkI {t:Nat} {x:Operand} (ho:o.op= .makeInterface t x) (he:bY ρ e n a.tmps) (R:Rel g ρ h nx w) (q:run (hMkI t x P ex e kv kp kd) h nx lg=some r):OkV P o a w g ρ r kv:=by
 obtain⟨v,h1,q1⟩:=gC q
 obtain⟨hn,q2⟩:=dR q1
 obtain⟨d,hd,hni⟩:=aEL hn
 have hU:=SX.run_underlying hd w
 refine .pure (x:= .iface t (a.eval x)) R ?_ (by simp only [tv,dG he h1]) q2
 cases d <;> first
  | exact absurd rfl (hni _)
  | simp [execOp,ho,Instr.makeInterface,a1R,hU,Sem.run,Pure.pure]
theorem s_mkF {fn:Fn} {f c:Array Operand} (ho:o.op= .makeFunc fn f c) (he:bY ρ e n a.tmps) (R:Rel g ρ h nx w) (q:run (hMkF fn f c P ex e kv kp kd) h nx lg=some r):OkV P o a w g ρ r kv:=by
 obtain⟨gf,h1,q1⟩:=bU q
 obtain⟨fs,h2,q2⟩:=kC q1
 obtain⟨cs,h3,q3⟩:=kC q2
 have:fn= .func gf:=by cases fn <;> first | (cases h1;rfl) | cases h1
 subst this
 have hf:=jL he h2
 have hc:=jL he h3
 refine .pure (x:= .func (.func gf) (f.map a.eval) (c.map a.eval)) R (by simp [execOp,ho,Instr.makeFunc,a1R,Sem.run,Pure.pure]) ?_ q3
 simp only [tv,hf,hc]
 rw [<- Array.toList_map,<- Array.toList_map]
theorem s_mapN {t:Nat} {rr:Option Operand} (ho:o.op= .makeMap t rr) (hi:r.2.nx<=g.hi) (R:Rel g ρ h nx w) (q:run (hMapN t rr P ex e kv kp kd) h nx lg=some r):OkV P o a w g ρ r kv:=by
 rcases kQ q with⟨rfl,q1⟩ | ⟨_,_,q1⟩
 ·rw [aA9]at q1;obtain⟨b,h1,n1,m,e1,q2⟩:=dU q1;obtain⟨rfl,h2,h3⟩:=zA R e1 (a1C (rZ q2) hi) 0 (.map #[] 0) ⟨rfl,trivial⟩;refine⟨.map b, .map (some w.heap.size),_,h1,n1,_,_, .inl ?_,h2,h3,by simp [tv,Rho.ins_self],q2⟩
  simp [execOp,ho,Instr.makeMap,newObj,a1R,Sem.run,Pure.pure]
 ·cases q1
end
end
open RowKit (Below)
noncomputable section
section
variable {P:Program} {o:Oper} {a:Act} {w:World} {g:G} {ρ:Rho} {r:O × S} {kv:KV} {kp:List PE->AJ} {kd:Df->AJ} {e:Tr V} {n:Nat} {h:Tr Blk} {nx:Nat} {lg:List Fp} {ex:Ex}
theorem aGl {t f:Nat} {q:Nat × Nat} (hf:fldOf P t f=some q):∃ fs fd,P.underlying t=some (.struct fs)/\fs[f]? =some fd/\fd.offset=q.1/\fd.type=q.2:=by
 unfold fldOf at hf
 split at hf
 ·rename_i fs hu;split at hf
  ·rename_i fd hn;cases hf;rw [mF]at hn;exact⟨fs,fd,dV hu,by simpa using hn,rfl,rfl⟩
  ·cases hf
 ·cases hf
theorem fldA_eq {t f k:Nat} (hf:fldA P t f=some k):∃ fs fd i,P.underlying t=some (.struct fs)/\fs[f]? =some fd/\fd.offset=k/\P.info? fd.type=some i/\i.size≠0:=by
 unfold fldA at hf
 split at hf
 ·rename_i k' ft hq;split at hf
  ·rename_i m hs;split at hf
   ·rename_i hpos;cases hf;obtain⟨fs,fd,h1,h2,h3,h4⟩:=aGl hq;simp only at h3 h4
    subst h3 h4;obtain⟨i,h5,h6⟩:=uJ hs;rw [a1x]at hpos;exact⟨fs,fd,i,h1,h2,rfl,h5,by omega⟩
   ·cases hf
  ·cases hf
 ·cases hf
theorem aHo {k:Nat} {d:AJ} {f:Nat->AJ} (q:run (eO k d f) h nx lg=some r):run (f k) h nx lg=some r:=q
theorem nD {y off k:Nat}:Addr.add ⟨y,off,none⟩ k=⟨y,off+k,none⟩:=yM y off k
theorem s_fieldA {t f:Nat} {x:Operand} (ho:o.op= .fieldAddr t x f) (he:bY ρ e n a.tmps) (R:Rel g ρ h nx w) (q:run (yL t x f P ex e kv kp kd) h nx lg=some r):OkV P o a w g ρ r kv:=by
 obtain⟨v,h1,q1⟩:=gC q
 obtain⟨k,hk,q2⟩:=bU q1
 obtain⟨b,off,rfl,q3⟩:=wE q2
 have q4:=aHo q3
 obtain⟨y,hb,hx⟩:=lJ (dG he h1)
 obtain⟨fs,fd,i,g1,g2,g3,g4,g5⟩:=fldA_eq hk
 refine .pure (x:= .pointer (some ⟨y.1,off+k,none⟩)) R ?_ (xB (κ:=y.2) hb) q4
 simp [execOp,ho,hx,Instr.fieldAt,Instr.sureAddr,fieldPlace,a1R,SX.run_underlying g1,g2,SX.run_sizeOf g4,g5,Sem.run,Pure.pure,nD,g3]
theorem aEX {t off:Nat} {s:Option Nat} {cs:List V} {l:List Value} {k:V->AJ} (hs:shp P t=some s) (hc:cells ρ cs l) (q:run (partV s off cs k) h nx lg=some r):
 ∃ v x,(part t ⟨l⟩ off).run P w= .ok x w/\tv ρ v=some x/\run (k v) h nx lg=some r:=by
 obtain⟨hA,hsz⟩:=aFj hs w
 rcases kQ q with⟨rfl,q1⟩ | ⟨m,rfl,q1⟩
 ·obtain⟨v,hv,q2⟩:=bU q1;rw [mF]at hv;obtain⟨x,h1,h2,_⟩:=hc.get hv;exact⟨v,x,by simp [part,a1R,hA,h1,Sem.run,Pure.pure],h2,q2⟩
 ·obtain⟨c',hc',q2⟩:=bU q1;rw [dr_eq,xF]at hc';obtain⟨h1,rfl⟩:=hc';have h2:=(hc.drop off).take m;refine⟨_,_,?_,aAt h2,q2⟩;have h3:((⟨l⟩:Array Value).extract off (off+m))=⟨(l.drop off).take m⟩:=by
   apply Array.ext'
   simp [List.extract_eq_take_drop]
  simp [part,a1R,hA,hsz m rfl,Sem.run,Pure.pure,h3]
theorem s_field {t f:Nat} {x:Operand} (ho:o.op= .field t x f) (he:bY ρ e n a.tmps) (R:Rel g ρ h nx w) (q:run (yU t x f P ex e kv kp kd) h nx lg=some r):OkV P o a w g ρ r kv:=by
 obtain⟨v,h1,q1⟩:=gC q
 obtain⟨p,hp,q2⟩:=bU q1
 rcases aF9 q2 with⟨cs,rfl,q3⟩ | q3
 ·obtain⟨l,hl,hx⟩:=aBf (dG he h1);unfold fldV at hp;split at hp
  ·rename_i k ft hq;split at hp
   ·rename_i s hs;cases hp;obtain⟨fs,fd,g1,g2,g3,g4⟩:=aGl hq;simp only at g3 g4
    subst g3 g4;obtain⟨u,z,g5,g6,q4⟩:=aEX (w:=w) hs hl q3;exact .pure R (by simp [execOp,ho,hx,Instr.field,Go.asAgg,a1R,SX.run_underlying g1,g2,g5,Sem.run,Pure.pure]) g6 q4
   ·cases hp
  ·cases hp
 ·cases q3
theorem at_inv {b off es len:Nat} {i:V} {k:V->AJ} (q:run (at' b off es len i k) h nx lg=some r):∃ kd j,i= .int kd (.ofNat j)/\j<len/\run (k (.ptr b (off+j*es))) h nx lg=some r:=by
 obtain⟨j,hj,q1⟩:=bU q
 obtain⟨hlt,q2⟩:=dR q1
 obtain⟨kd,rfl⟩:=xN hj
 rw [a1x]at hlt
 exact⟨kd,j,rfl,hlt,q2⟩
theorem nC {b off len cap:Nat} {x:Value} (h:tv ρ (.sl b off len cap)=some x):∃ y,ρ b=some y/\x= .slice (some ⟨y.1,off,none⟩) len cap:=by
 simp only [tv,a1M]at h
 obtain⟨y,h1,rfl⟩:=h;exact⟨y,h1,rfl⟩
theorem oG {b off len es:Nat} {x:Value} (h:tv ρ (.so b off len es)=some x):∃ y,ρ b=some y/\x= .slice (some ⟨y.1,off,none⟩) len (y.2 - off / es):=by
 simp only [tv,a1M]at h
 obtain⟨y,h1,rfl⟩:=h;exact⟨y,h1,rfl⟩
theorem aF8 {t el:Nat} (hh:elOf P t=some el):P.underlying t=some (.slice el):=by
 unfold elOf at hh
 split at hh
 ·rename_i u hu;cases hh;exact dV hu
 ·cases hh
theorem arOf_eq {t:Nat} {q:Nat × Nat} (hh:arOf P t=some q):P.underlying t=some (.array q.1 q.2):=by
 unfold arOf at hh
 split at hh
 ·rename_i m u hu;cases hh;exact dV hu
 ·cases hh
theorem ixOf_eq {t:Nat} {q:Nat × Option Nat} (hh:ixOf P t=some q):∃ el i,P.info? el=some i/\i.size=q.1/\(q.2=none/\P.underlying t=some (.slice el)\/∃ m,q.2=some m/\P.underlying t=some (.array m el)):=by
 unfold ixOf at hh
 split at hh
 ·rename_i el hu;split at hh
  ·rename_i es hs;cases hh
   obtain⟨i,h1,h2⟩:=uJ hs;exact⟨el,i,h1,h2, .inl ⟨rfl,dV hu⟩⟩
  ·cases hh
 ·rename_i m el hu;split at hh
  ·rename_i es hs;cases hh
   obtain⟨i,h1,h2⟩:=uJ hs;exact⟨el,i,h1,h2, .inr ⟨m,rfl,dV hu⟩⟩
  ·cases hh
 ·cases hh
theorem s_idxA {t:Nat} {x ix:Operand} (ho:o.op= .indexAddr t x ix) (he:bY ρ e n a.tmps) (R:Rel g ρ h nx w) (q:run (yH t x ix P ex e kv kp kd) h nx lg=some r):OkV P o a w g ρ r kv:=by
 obtain⟨v,i,h1,h2,q1⟩:=sW q
 obtain⟨p,hp,q2⟩:=bU q1
 obtain⟨el,inf,g1,g2,g3⟩:=ixOf_eq hp
 have hsz:=SX.run_sizeOf g1 w
 have hv:=dG he h1
 have hi:=dG he h2
 have fin:∀ (y:Nat × Nat) (b off len cap:Nat),ρ b=some y->P.underlying t=some (.slice el)->a.eval x= .slice (some ⟨y.1,off,none⟩) len cap->run (at' b off p.1 len i kv) h nx lg=some r->OkV P o a w g ρ r kv:=by
  intro y b off len cap hb hu hx q3;obtain⟨kd',j,rfl,hj,q4⟩:=at_inv q3;have hj':=qZ hi;refine .pure (x:= .pointer (some ⟨y.1,off+j*p.1,none⟩)) R ?_ (xB (κ:=y.2) hb) q4;have h1:(0:Int)<=(j:Int)/\(j:Int)<(len:Int):=by omega
  simp [execOp,ho,hx,hj',Instr.indexAt,asIntOf,a1R,SX.run_underlying hu,Sem.run,Pure.pure,hsz,g2,nD,hj]
 rcases g3 with⟨g3,hu⟩ | ⟨m,g3,hu⟩
 ·rw [g3]at q2;rcases sX q2 with⟨b,off,len,cap,rfl,q3⟩ | ⟨b,off,len,es,rfl,q3⟩ | ⟨_,q3⟩ | q3
  ·obtain⟨y,hb,hx⟩:=nC hv;exact fin y b off len _ hb hu hx q3
  ·obtain⟨y,hb,hx⟩:=oG hv;exact fin y b off len _ hb hu hx q3
  ·cases q3
  ·cases q3
 ·rw [g3]at q2;obtain⟨b,off,rfl,q3⟩:=wE (v:=v) (f:=fun b off=>at' b off p.1 m i kv) q2
  obtain⟨y,hb,hx⟩:=lJ hv;obtain⟨kd',j,rfl,hj,q4⟩:=at_inv q3;have hj':=qZ hi;refine .pure (x:= .pointer (some ⟨y.1,off+j*p.1,none⟩)) R ?_ (xB (κ:=y.2) hb) q4;have h1:(0:Int)<=(j:Int)/\(j:Int)<(m:Int):=by omega
  simp [execOp,ho,hx,hj',Instr.indexAt,Instr.sureAddr,asIntOf,a1R,SX.run_underlying hu,Sem.run,Pure.pure,hsz,g2,nD,hj]
mutual
theorem yI (ρ:Rho):∀ {v:V} {c:Value},gv v=some c->tv ρ v=some c
 | .int _ _,_,q=>by cases q;rfl
 | .bool _,_,q=>by cases q;rfl
 | .str _,_,q=>by cases q;rfl
 | .ptr _ _,_,q=>by cases q
 | .nilp,_,q=>by cases q;rfl
 | .sl _ _ _ _,_,q=>by cases q
 | .so _ _ _ _,_,q=>by cases q
 | .nils,_,q=>by cases q;rfl
 | .map _,_,q=>by cases q
 | .nilm,_,q=>by cases q;rfl
 | .fn _ _ _,_,q=>by cases q
 | .yld _,_,q=>by cases q
 | .nilf,_,q=>by cases q;rfl
 | .iface t v,c,q=>by
  simp only [gv]at q;cases hq:gv v with
  | none=>rw [hq]at q;cases q
  | some x=>rw [hq]at q;cases q;simp only [tv,yI ρ hq]
 | .nili,_,q=>by cases q;rfl
 | .agg cs,c,q=>by
  simp only [gv]at q;cases hc:iC cs with
  | false=>rw [hc]at q;cases q
  | true=>
   rw [hc]at q;simp only at q
   cases hq:gvs cs with
   | none=>rw [hq]at q;cases q
   | some x=>rw [hq]at q;cases q;simp only [tv,hc,aCD ρ hq]
 | .tup cs,c,q=>by
  simp only [gv]at q;cases hq:gvs cs with
  | none=>rw [hq]at q;cases q
  | some x=>rw [hq]at q;cases q;simp only [tv,aCD ρ hq]
theorem aCD (ρ:Rho):∀ {l:List V} {c:List Value},gvs l=some c->tvs ρ l=some c
 | [],_,q=>by cases q;rfl
 | v :: l,c,q=>by
  simp only [gvs]at q;cases hq:gv v with
  | none=>rw [hq]at q;cases q
  | some x=>
   rw [hq]at q;simp only at q
   cases h2:gvs l with
   | none=>rw [h2]at q;cases q
   | some y=>rw [h2]at q;cases q;exact eF.2 ⟨x,y,yI ρ hq,aCD ρ h2,rfl⟩
end
theorem aBN {α:Type}:∀ (m:Sem α) {x:α},aAr P m=some x->m.run P w= .ok x w
 | .pure a,x,q=>by cases q;rfl
 | .program k,x,q=>aBN (k P) q
 | .mark _ k,x,q=>aBN k q
 | .load _ _ _,_,q=>by cases q
 | .store _ _ _ _,_,q=>by cases q
 | .new _ _,_,q=>by cases q
 | .shape _ _,_,q=>by cases q
 | .freeze _ _ _,_,q=>by cases q
 | .frozen _ _,_,q=>by cases q
 | .getObj _ _,_,q=>by cases q
 | .setObj _ _ _,_,q=>by cases q
 | .choose _ _,_,q=>by cases q
 | .sys _ _,_,q=>by cases q
 | .halt _,_,q=>by cases q
theorem aFF {m:Sem Value} {k:V->AJ} (q:run (gen P m k) h nx lg=some r):∃ v x,m.run P w= .ok x w/\tv ρ v=some x/\run (k v) h nx lg=some r:=by
 obtain⟨x,h1,q1⟩:=bU q
 obtain⟨v,h2,q2⟩:=bU q1
 exact⟨v,x,aBN m h1,vS ρ x h2,q2⟩
theorem aF7 {m:Value->Sem Value} {v:V} {x:Value} {k:V->AJ} (hv:tv ρ v=some x) (q:run (gen1 P m v k) h nx lg=some r):∃ u y,(m x).run P w= .ok y w/\tv ρ u=some y/\run (k u) h nx lg=some r:=by
 obtain⟨c,h1,q1⟩:=bU q
 have:=(yI ρ h1).symm.trans hv
 cases this
 exact aFF q1
theorem aGa {m:Value->Value->Sem Value} {v v':V} {x x':Value} {k:V->AJ} (hv:tv ρ v=some x) (hv':tv ρ v'=some x') (q:run (gen2 P m v v' k) h nx lg=some r):∃ u y,(m x x').run P w= .ok y w/\tv ρ u=some y/\run (k u) h nx lg=some r:=by
 obtain⟨c,h1,q1⟩:=bU q
 obtain⟨c',h2,q2⟩:=bU q1
 have:=(yI ρ h1).symm.trans hv
 cases this
 have:=(yI ρ h2).symm.trans hv'
 cases this
 exact aFF q2
theorem s_idx {t:Nat} {x ix:Operand} (ho:o.op= .index t x ix) (he:bY ρ e n a.tmps) (R:Rel g ρ h nx w) (q:run (hIdx t x ix P ex e kv kp kd) h nx lg=some r):OkV P o a w g ρ r kv:=by
 obtain⟨v,i,h1,h2,q1⟩:=sW q
 have hv:=dG he h1
 have hi:=dG he h2
 rcases aF9 q1 with⟨cs,rfl,q2⟩ | q2
 ·obtain⟨p,hp,q3⟩:=bU q2;obtain⟨es,hes,q4⟩:=bU q3;obtain⟨s,hs,q5⟩:=bU q4;obtain⟨j,hj,q6⟩:=bU q5;obtain⟨hlt,q7⟩:=dR q6;obtain⟨kd',rfl⟩:=xN hj;have hj':=qZ hi;obtain⟨l,hl,hx⟩:=aBf hv;obtain⟨u,z,g5,g6,q8⟩:=aEX (w:=w) hs hl q7;rw [a1x]at hlt;have g5':(part p.2 ⟨l⟩ (j*es)).run P w= .ok z w:=g5;exact .pure R (by simp [execOp,ho,hx,hj',Instr.index,asIntOf,a1R,SX.run_underlying (arOf_eq hp),zE hes w,hlt,g5',Sem.run,Pure.pure]) g6 q8
 ·obtain⟨u,y,g1,g2,q3⟩:=aGa (w:=w) hv hi q2;exact .pure R (by simp [execOp,ho,a1R,g1,Sem.run,Pure.pure]) g2 q3
theorem s_un {op:UnOp} {t:Nat} {x:Operand} (ho:o.op= .unOp op t x) (he:bY ρ e n a.tmps) (R:Rel g ρ h nx w) (q:run (hUn op t x P ex e kv kp kd) h nx lg=some r):OkV P o a w g ρ r kv:=by
 obtain⟨v,h1,q1⟩:=gC q
 have hv:=dG he h1
 have gen:run (gen1 P (Op.unary op) v kv) h nx lg=some r->OkV P o a w g ρ r kv:=fun q2=>by
  obtain⟨u,y,g1,g2,q3⟩:=aF7 (w:=w) hv q2;exact .pure R (by simp [execOp,ho,a1R,g1,Sem.run,Pure.pure]) g2 q3
 cases op with
 | not=>
  obtain⟨b,rfl,q2⟩:=aGq (v:=v) (f:=fun b=>kv (.bool (Bool.not b))) q1
  have hb:=aEy hv;exact .pure (x:= .bool (!b)) R (by simp [execOp,ho,hb,Op.unary,a1R,Sem.run,Pure.pure]) rfl q2
 | neg=>exact gen q1
 | xor=>exact gen q1
 | plus=>exact gen q1
theorem s_conv {s t:Nat} {x:Operand} (ho:o.op= .convert s t x) (he:bY ρ e n a.tmps) (R:Rel g ρ h nx w) (q:run (yR s t x P ex e kv kp kd) h nx lg=some r):OkV P o a w g ρ r kv:=by
 obtain⟨v,h1,q1⟩:=gC q
 obtain⟨u,y,g1,g2,q3⟩:=aF7 (w:=w) (dG he h1) q1
 exact .pure R (by simp [execOp,ho,a1R,g1,Sem.run,Pure.pure]) g2 q3
end
end
end Go.BX

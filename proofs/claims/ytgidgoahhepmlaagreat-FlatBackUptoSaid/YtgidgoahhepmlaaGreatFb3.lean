/- Parts of the proof: lemmas, and the steps through the program. -/
import Derived.Test.YtgidgoahhepmlaaGreatFb2
import Derived.DefersIn
import Derived.Below
set_option linter.unusedVariables false
set_option linter.unusedSimpArgs false
set_option maxRecDepth 100000
set_option maxHeartbeats 2000000
namespace Go.Proofs.YtgidgoahhepmlaaGreat
open Go.SX Go.SW Go.Dt
attribute [local irreducible] Code.wpIn wpListIn Exit.then Exit.inBlock
def oA (AA:Nat) (a0:AW) (a1:AW):Nat->Int->Option ((Unit) ⊕ (Bool))
| 0,_=>none
| k+1,x2=>
 if x2<(a0.AU.length:Int)then
  (idx a0.AU x2).bind fun y2=>
  (idx a1.AU x2).bind fun y3=>
  (mQ AA y2 y3).bind fun y4=>
  bif y4 then
   (chk (x2+1)).bind fun z1=>
   oA AA a0 a1 k z1
  else
   (some false).bind fun r=>some (Sum.inr r)
 else
  some (Sum.inl ())
def wT (AA:Nat) (a0:AW) (a1:AW):Option (Bool):=
 if a0.Op≠a1.Op then
  some false
 else
  if a0.N≠a1.N then
   some false
  else
   if (a0.AU.length:Int)≠(a1.AU.length:Int)then
    some false
   else
    (qM AA a0.AM a1.AM).bind fun y1=>
    bif y1 then
     (oA AA a0 a1 AA 0).bind fun o=>match o with
     | Sum.inr r=>some r
     | Sum.inl _=>
     some true
    else
     some false
theorem aI1 (AA:Nat)  (a0:AW) (a1:AW) (r:Bool) (H:wT AA a0 a1=some r):FnS Tryz.prog 50 [fSt aM a0,fSt aM a1] [] (aK r) (fun _=>[]):=by
 unfold wT at H
 refine bG Tryz.func50 rfl Tryz.ntmps50 rfl (fun β=>?_)
 refine Z1 ?_
 refine Tn (bU rfl hh bS) fun b1=>?_
 refine Tn (bU rfl hh bS) fun b2=>?_
 refine Z2 ?_
 refine aI ?_
 revert H;refine I7 (fun c1 H=>?_) fun c1 H=>?_
 refine Z12 ?_
 refine Z12 ?_
 refine Z5 ?_
 cases H
 refine aE [] (by decide) ?_
 exact To
 revert H;refine I7 (fun c2 H=>?_) fun c2 H=>?_
 refine Z12 ?_
 refine Z10 ?_
 cases H
 refine aE [] (by decide) ?_
 exact To
 revert H;refine I9 (fun c3 H=>?_) fun c3 H=>?_
 refine Z12 ?_
 refine Z1 ?_
 cases H
 refine aE [] (by decide) ?_
 exact To
 revert H;refine B4 fun y1 h1 H=>?_
 refine Tc (zH _ _ _ _ h1) ?_
 refine Z3 ?_
 revert H;refine cs (fun c4 H=>?_) fun c4 H=>?_
 revert H;refine B3 fun o1 H Hr1=>?_
 refine aR (ι:=Unit) (fun i=>o1=Sum.inl ()) (fun i=>[]) (fun i=>[aA b2 65 [fI a1.Op,fI a1.N,fSl aO a1.AU,fSl tI a1.AM],aA b1 65 [fI a0.Op,fI a0.N,fSl aO a0.AU,fSl tI a0.AM]]) ?_ ?_
 refine Z4 ?_
 refine Tl (ι:=Nat × Int) (fun i=>oA AA a0 a1 i.1 i.2=_) (fun i=>i.1) (fun i=>[(2,fEq (ptr b1)),(3,fEq (ptr b2)),(5,fI i.2)]) (fun i=>[aA b2 65 [fI a1.Op,fI a1.N,fSl aO a1.AU,fSl tI a1.AM],aA b1 65 [fI a0.Op,fI a0.N,fSl aO a0.AU,fSl tI a0.AM]]) (AA,0) H ?_
 clear H;rintro⟨k1,x2⟩ H
 replace H:oA AA a0 a1 k1 x2=_:=H
 try dsimp only
 obtain _ | k1:=k1
 rw [oA]at H;cases H
 rw [oA]at H
 refine aI ?_
 revert H;refine I7 (fun c5 H=>?_) fun c5 H=>?_
 refine Z3 ?_
 refine aI ?_
 refine Z1 ?_
 refine aI ?_
 revert H;refine bs fun y2 h2 H=>?_
 revert H;refine bs fun y3 h3 H=>?_
 revert H;refine bs fun y4 h4 H=>?_
 apply bL (ods:=[_,_,_,_,_,_,_,_,_,_,_,_]) 12 0 2 bK rfl rfl rfl
 refine ND ?_
 refine M8 ?_
 intros
 refine M2 ?_
 intros
 refine Nc (aIt _ _ _ _ h4) fun _=>?_
 refine M1 ?_
 intros
 refine Z2 ?_
 revert H;refine cs (fun c6 H=>?_) fun c6 H=>?_
 revert H;refine B6 fun z1 h5 H=>?_
 refine Z3 ?_
 exact Tm ((k1,z1)) ⟨H,ls⟩
 revert H;refine B10 fun r1 H e1=>?_
 cases e1;cases Hr1
 cases H
 refine aE [] (by decide) ?_
 exact To
 exact fk
 kernel_rfl
 refine Z6 ?_
 exact Tm (()) (ij H)
 clear H;intro i hi;subst o1;have H:=Hr1;clear Hr1;try dsimp only at H
 try dsimp only
 refine Z4 ?_
 cases H
 refine aE [] (by decide) ?_
 exact To
 refine Z5 ?_
 cases H
 refine aE [] (by decide) ?_
 exact To
def qF (AA:Nat) (a0:AI) (a1:AI):Nat->Int->Option ((Unit) ⊕ (Bool))
| 0,_=>none
| k+1,x2=>
 if x2<(a0.AD.length:Int)then
  (idx a0.AD x2).bind fun y2=>
  (idx a1.AD x2).bind fun y3=>
  (wT AA y2 y3).bind fun y4=>
  bif y4 then
   (chk (x2+1)).bind fun z1=>
   qF AA a0 a1 k z1
  else
   (some false).bind fun r=>some (Sum.inr r)
 else
  some (Sum.inl ())
def nZ (AA:Nat) (a0:AI) (a1:AI):Nat->Int->Option ((Unit) ⊕ (Bool))
| 0,_=>none
| k+1,x4=>
 if x4<(a0.AE.length:Int)then
  (idx a0.AE x4).bind fun y5=>
  (idx a1.AE x4).bind fun y6=>
  (wI AA y5 y6).bind fun y7=>
  bif y7 then
   (chk (x4+1)).bind fun z2=>
   nZ AA a0 a1 k z2
  else
   (some false).bind fun r=>some (Sum.inr r)
 else
  some (Sum.inl ())
def aAD (AA:Nat) (a0:AI) (a1:AI):Option (Bool):=
 (xS AA a0.AF a1.AF).bind fun y1=>
 bif !y1 then
  some false
 else
  if (a0.AD.length:Int)≠(a1.AD.length:Int)then
   some false
  else
   if (a0.AE.length:Int)≠(a1.AE.length:Int)then
    some false
   else
    if a0.AG≠a1.AG then
     some false
    else
     (qF AA a0 a1 AA 0).bind fun o=>match o with
     | Sum.inr r=>some r
     | Sum.inl _=>
     (nZ AA a0 a1 AA 0).bind fun o=>match o with
     | Sum.inr r=>some r
     | Sum.inl _=>
     some true
theorem aJe (AA:Nat)  (a0:AI) (a1:AI) (r:Bool) (H:aAD AA a0 a1=some r):FnS Tryz.prog 15 [fSt cN a0,fSt cN a1] [] (aK r) (fun _=>[]):=by
 unfold aAD at H
 refine bG Tryz.func15 rfl Tryz.ntmps15 rfl (fun β=>?_)
 refine Z1 ?_
 refine Tn (bU rfl hh bS) fun b1=>?_
 refine Tn (bU rfl hh bS) fun b2=>?_
 refine Z2 ?_
 refine aI ?_
 revert H;refine B5 fun y1 h1 H=>?_
 refine Tc (aKl _ _ _ _ h1) ?_
 refine Z2 ?_
 revert H;refine cs (fun c1 H=>?_) fun c1 H=>?_
 refine Z12 ?_
 refine Z12 ?_
 refine Z6 ?_
 cases H
 refine aE [] (by decide) ?_
 exact To
 revert H;refine I9 (fun c2 H=>?_) fun c2 H=>?_
 refine Z12 ?_
 refine Z9 ?_
 cases H
 refine aE [] (by decide) ?_
 exact To
 revert H;refine I9 (fun c3 H=>?_) fun c3 H=>?_
 refine Z12 ?_
 cases H
 refine aE [] (by decide) ?_
 exact To
 revert H;refine I7 (fun c4 H=>?_) fun c4 H=>?_
 refine Z5 ?_
 cases H
 refine aE [] (by decide) ?_
 exact To
 revert H;refine B3 fun o1 H Hr1=>?_
 refine aR (ι:=Unit) (fun i=>o1=Sum.inl ()) (fun i=>[(2,fEq (ptr b1)),(3,fEq (ptr b2))]) (fun i=>[aA b2 26 [fSl aD a1.AF,fSl aM a1.AD,fSl aB a1.AE,fI a1.AG],aA b1 26 [fSl aD a0.AF,fSl aM a0.AD,fSl aB a0.AE,fI a0.AG]]) ?_ ?_
 refine Z4 ?_
 refine Tl (ι:=Nat × Int) (fun i=>qF AA a0 a1 i.1 i.2=_) (fun i=>i.1) (fun i=>[(2,fEq (ptr b1)),(3,fEq (ptr b2)),(5,fI i.2)]) (fun i=>[aA b2 26 [fSl aD a1.AF,fSl aM a1.AD,fSl aB a1.AE,fI a1.AG],aA b1 26 [fSl aD a0.AF,fSl aM a0.AD,fSl aB a0.AE,fI a0.AG]]) (AA,0) H ?_
 clear H;rintro⟨k1,x2⟩ H
 replace H:qF AA a0 a1 k1 x2=_:=H
 try dsimp only
 obtain _ | k1:=k1
 rw [qF]at H;cases H
 rw [qF]at H
 refine aI ?_
 revert H;refine I7 (fun c5 H=>?_) fun c5 H=>?_
 refine Z3 ?_
 refine aI ?_
 refine Z1 ?_
 refine aI ?_
 revert H;refine bs fun y2 h2 H=>?_
 revert H;refine bs fun y3 h3 H=>?_
 revert H;refine bs fun y4 h4 H=>?_
 apply bL (ods:=[_,_,_,_,_,_,_,_,_,_,_,_]) 12 0 2 bK rfl rfl rfl
 refine ND ?_
 refine M8 ?_
 intros
 refine M2 ?_
 intros
 refine Nc (aI1 _ _ _ _ h4) fun _=>?_
 refine M1 ?_
 intros
 refine Z2 ?_
 revert H;refine cs (fun c6 H=>?_) fun c6 H=>?_
 revert H;refine B6 fun z1 h5 H=>?_
 refine Z3 ?_
 exact Tm ((k1,z1)) ⟨H,ls⟩
 revert H;refine B10 fun r1 H e1=>?_
 cases e1;cases Hr1
 cases H
 refine aE [] (by decide) ?_
 exact To
 exact fk
 kernel_rfl
 refine Z6 ?_
 exact Tm (()) (ij H)
 clear H;intro i hi;subst o1;have H:=Hr1;clear Hr1;try dsimp only at H
 try dsimp only
 revert H;refine bs fun o2 H Hr2=>?_
 refine aR (ι:=Unit) (fun i=>o2=Sum.inl ()) (fun i=>[]) (fun i=>[aA b2 26 [fSl aD a1.AF,fSl aM a1.AD,fSl aB a1.AE,fI a1.AG],aA b1 26 [fSl aD a0.AF,fSl aM a0.AD,fSl aB a0.AE,fI a0.AG]]) ?_ ?_
 refine Z4 ?_
 refine Tl (ι:=Nat × Int) (fun i=>nZ AA a0 a1 i.1 i.2=_) (fun i=>i.1) (fun i=>[(2,fEq (ptr b1)),(3,fEq (ptr b2)),(6,fI i.2)]) (fun i=>[aA b2 26 [fSl aD a1.AF,fSl aM a1.AD,fSl aB a1.AE,fI a1.AG],aA b1 26 [fSl aD a0.AF,fSl aM a0.AD,fSl aB a0.AE,fI a0.AG]]) (AA,0) H ?_
 clear H;rintro⟨k2,x4⟩ H
 replace H:nZ AA a0 a1 k2 x4=_:=H
 try dsimp only
 obtain _ | k2:=k2
 rw [nZ]at H;cases H
 rw [nZ]at H
 refine aI ?_
 revert H;refine I7 (fun c7 H=>?_) fun c7 H=>?_
 refine Z3 ?_
 refine aI ?_
 refine Z1 ?_
 refine aI ?_
 revert H;refine bs fun y5 h6 H=>?_
 revert H;refine bs fun y6 h7 H=>?_
 revert H;refine bs fun y7 h8 H=>?_
 apply bL (ods:=[_,_,_,_,_,_,_,_,_,_,_,_]) 12 0 2 bK rfl rfl rfl
 refine ND ?_
 refine M8 ?_
 intros
 refine M2 ?_
 intros
 refine Nc (aH9 _ _ _ _ h8) fun _=>?_
 refine M1 ?_
 intros
 refine Z2 ?_
 revert H;refine cs (fun c8 H=>?_) fun c8 H=>?_
 revert H;refine B6 fun z2 h9 H=>?_
 refine Z3 ?_
 exact Tm ((k2,z2)) ⟨H,ls⟩
 revert H;refine B10 fun r2 H e2=>?_
 cases e2;cases Hr2
 cases H
 refine aE [] (by decide) ?_
 exact To
 exact fk
 kernel_rfl
 refine Z6 ?_
 exact Tm (()) (ij H)
 clear H;intro i hi;subst o2;have H:=Hr2;clear Hr2;try dsimp only at H
 try dsimp only
 refine Z4 ?_
 cases H
 refine aE [] (by decide) ?_
 exact To
def pV (a0:List ByteArray) (a1:ByteArray):Nat->Int->Option ((Unit) ⊕ (Bool))
| 0,_=>none
| k+1,x2=>
 if x2<(a0.length:Int)then
  (idx a0 x2).bind fun y1=>
  if y1=a1 then
   (some true).bind fun r=>some (Sum.inr r)
  else
   (chk (x2+1)).bind fun z1=>
   pV a0 a1 k z1
 else
  some (Sum.inl ())
def yV (AA:Nat) (a0:List ByteArray) (a1:ByteArray):Option (Bool):=
 (pV a0 a1 AA 0).bind fun o=>match o with
 | Sum.inr r=>some r
 | Sum.inl _=>
 some false
theorem aKQ (AA:Nat)  (a0:List ByteArray) (a1:ByteArray) (r:Bool) (H:yV AA a0 a1=some r):FnS Tryz.prog 116 [fSl aD a0,gH a1] [] (aK r) (fun _=>[]):=by
 unfold yV at H
 refine bG Tryz.func116 rfl Tryz.ntmps116 rfl (fun β=>?_)
 revert H;refine B3 fun o1 H Hr1=>?_
 refine aR (ι:=Unit) (fun i=>o1=Sum.inl ()) (fun i=>[]) (fun i=>[]) ?_ ?_
 refine Z4 ?_
 refine Tl (ι:=Nat × Int) (fun i=>pV a0 a1 i.1 i.2=_) (fun i=>i.1) (fun i=>[(0,fSl aD a0),(1,gH a1),(5,fI i.2)]) (fun i=>[]) (AA,0) H ?_
 clear H;rintro⟨k1,x2⟩ H
 replace H:pV a0 a1 k1 x2=_:=H
 try dsimp only
 obtain _ | k1:=k1
 rw [pV]at H;cases H
 rw [pV]at H
 refine aI ?_
 revert H;refine I6 (fun c1 H=>?_) fun c1 H=>?_
 refine Z3 ?_
 refine aI ?_
 revert H;refine B4 fun y1 h1 H=>?_
 refine Z3 ?_
 refine Yy (o_eqlS rfl hh hh) ?_
 revert H;refine I1 (fun c2 H=>?_) fun c2 H=>?_
 revert H;refine B10 fun r1 H e1=>?_
 cases e1;cases Hr1
 cases H
 exact To
 revert H;refine B6 fun z1 h2 H=>?_
 refine Z3 ?_
 exact Tm ((k1,z1)) ⟨H,ls⟩
 refine Z6 ?_
 exact Tm (()) (ij H)
 clear H;intro i hi;subst o1;have H:=Hr1;clear Hr1;try dsimp only at H
 try dsimp only
 refine Z4 ?_
 cases H
 exact To
def qV (a0:ByteArray):Nat->Int->Option ((Unit) ⊕ (Bool))
| 0,_=>none
| k+1,x2=>
 if x2<(a0.size:Int)then
  (sidx a0 x2).bind fun z1=>
  if z1<97 then
   (some false).bind fun r=>some (Sum.inr r)
  else
   (sidx a0 x2).bind fun z2=>
   if 122<z2 then
    (some false).bind fun r=>some (Sum.inr r)
   else
    (chk (x2+1)).bind fun z3=>
    qV a0 k z3
 else
  some (Sum.inl ())
def uJ (AA:Nat) (a0:ByteArray):Option (Bool):=
 if (a0.size:Int)<1 then
  some false
 else
  if 8<(a0.size:Int)then
   some false
  else
   (qV a0 AA 0).bind fun o=>match o with
   | Sum.inr r=>some r
   | Sum.inl _=>
   (yV AA [{ data:=#[97,110,100] },{ data:=#[100,101,102] },{ data:=#[101,108,115,101] },{ data:=#[103,111] },{ data:=#[105,102] },{ data:=#[105,110] },{ data:=#[112,108,97,99,101] },{ data:=#[115,116,111,112] },{ data:=#[116,104,101,110] },{ data:=#[119,97,116,99,104] }] a0).bind fun y1=>
   some (!y1)
theorem aCX (AA:Nat)  (a0:ByteArray) (r:Bool) (H:uJ AA a0=some r):FnS Tryz.prog 82 [gH a0] [] (aK r) (fun _=>[]):=by
 unfold uJ at H
 refine bG Tryz.func82 rfl Tryz.ntmps82 rfl (fun β=>?_)
 refine Z3 ?_
 refine aI ?_
 refine Z2 ?_
 refine Yy (uM rfl hh nH) ?_
 revert H;refine I2 (fun c1 H=>?_) fun c1 H=>?_
 refine Z10 ?_
 cases H
 exact To
 refine Z1 ?_
 refine Yg c1 (uM rfl hh nH) ?_
 revert H;refine I3 (fun c2 H=>?_) fun c2 H=>?_
 refine Z5 ?_
 cases H
 exact To
 revert H;refine B3 fun o1 H Hr1=>?_
 refine aR (ι:=Unit) (fun i=>o1=Sum.inl ()) (fun i=>[(0,gH a0)]) (fun i=>[]) ?_ ?_
 refine Z4 ?_
 refine Tl (ι:=Nat × Int) (fun i=>qV a0 i.1 i.2=_) (fun i=>i.1) (fun i=>[(0,gH a0),(3,fI i.2)]) (fun i=>[]) (AA,0) H ?_
 clear H;rintro⟨k1,x2⟩ H
 replace H:qV a0 k1 x2=_:=H
 try dsimp only
 obtain _ | k1:=k1
 rw [qV]at H;cases H
 rw [qV]at H
 refine aI ?_
 refine Z3 ?_
 refine Yy (uM rfl hh nH) ?_
 revert H;refine I2 (fun c3 H=>?_) fun c3 H=>?_
 refine Z3 ?_
 refine aI ?_
 revert H;refine B4 fun z1 h1 H=>?_
 refine Yy (aBH rfl hh hh nH h1) ?_
 revert H;refine I2 (fun c4 H=>?_) fun c4 H=>?_
 refine Z12 ?_
 revert H;refine B4 fun r1 H e1=>?_
 cases e1;cases Hr1
 cases H
 exact To
 revert H;refine B2 fun z2 h2 H=>?_
 refine Yg c4 (aBH rfl hh hh nH h2) ?_
 revert H;refine I3 (fun c5 H=>?_) fun c5 H=>?_
 revert H;refine B10 fun r2 H e2=>?_
 cases e2;cases Hr1
 cases H
 exact To
 revert H;refine B6 fun z3 h3 H=>?_
 refine Z3 ?_
 exact Tm ((k1,z3)) ⟨H,ls⟩
 refine Z6 ?_
 exact Tm (()) (ij H)
 clear H;intro i hi;subst o1;have H:=Hr1;clear Hr1;try dsimp only at H
 try dsimp only
 refine Z1 ?_
 refine Tn (gR (t:=aD) (xs:=[{ data:=#[97,110,100] },{ data:=#[100,101,102] },{ data:=#[101,108,115,101] },{ data:=#[103,111] },{ data:=#[105,102] },{ data:=#[105,110] },{ data:=#[112,108,97,99,101] },{ data:=#[115,116,111,112] },{ data:=#[116,104,101,110] },{ data:=#[119,97,116,99,104] }]) rfl (et rfl) (cM.cons rfl (has rfl) (cJ (aH a2g)) (cM.cons rfl (has rfl) (cJ (aH a2g)) (cM.cons rfl (has rfl) (cJ (aH a2g)) (cM.cons rfl (has rfl) (cJ (aH a2g)) (cM.cons rfl (has rfl) (cJ (aH a2g)) (cM.cons rfl (has rfl) (cJ (aH a2g)) (cM.cons rfl (has rfl) (cJ (aH a2g)) (cM.cons rfl (has rfl) (cJ (aH a2g)) (cM.cons rfl (has rfl) (cJ (aH a2g)) (cM.cons rfl (has rfl) (cJ (aH a2g)) cM.nil)))))))))) rfl rfl rfl) fun b1=>?_
 generalize (Value.slice (some ⟨b1,0,none⟩) _ _)=v1
 refine aJ 0 rfl (fun hc_v1=>?_)
 refine Z1 ?_
 refine cE (φ:=fSl aD [{ data:=#[97,110,100] },{ data:=#[100,101,102] },{ data:=#[101,108,115,101] },{ data:=#[103,111] },{ data:=#[105,102] },{ data:=#[105,110] },{ data:=#[112,108,97,99,101] },{ data:=#[115,116,111,112] },{ data:=#[116,104,101,110] },{ data:=#[119,97,116,99,104] }]) (v:=v1) [28] dI fz ?_
 refine cD ?_
 revert H;refine bs fun y1 h4 H=>?_
 refine Tc (aKQ _ _ _ _ h4) ?_
 refine Z4 ?_
 cases H
 exact To
open Go.SX Go.SW Go.Dt
def nQ (a0:AO):Nat->Int->Option ((Unit) ⊕ (Bool))
| 0,_=>none
| k+1,x2=>
 if x2<(a0.AN.length:Int)then
  (idx a0.AN x2).bind fun y1=>
  if y1.At<0 then
   (some false).bind fun r=>some (Sum.inr r)
  else
   (idx a0.AN x2).bind fun y2=>
   if (a0.AR.length:Int)<y2.At then
    (some false).bind fun r=>some (Sum.inr r)
   else
    (idx a0.AN x2).bind fun y3=>
    if y3.Ap<0 then
     (some false).bind fun r=>some (Sum.inr r)
    else
     (idx a0.AN x2).bind fun y4=>
     if 3<y4.Ap then
      (some false).bind fun r=>some (Sum.inr r)
     else
      (chk (x2+1)).bind fun z1=>
      nQ a0 k z1
 else
  some (Sum.inl ())
def pD (a0:AO):Nat->Int->Option ((Unit) ⊕ (Bool))
| 0,_=>none
| k+1,x4=>
 if x4<(a0.AR.length:Int)then
  (idx a0.AR x4).bind fun y5=>
  if y5.In<0 then
   (some false).bind fun r=>some (Sum.inr r)
  else
   (idx a0.AR x4).bind fun y6=>
   if x4<y6.In then
    (some false).bind fun r=>some (Sum.inr r)
   else
    (chk (x4+1)).bind fun z2=>
    pD a0 k z2
 else
  some (Sum.inl ())
def nM (y8:Am) (x14:Int) (y9:Int):Nat->Int->Option ((Unit) ⊕ ((List Bool) ⊕ ((List Bool) ⊕ ((List Bool) ⊕ (Bool)))))
| 0,_=>none
| k+1,x17=>
 if x17<x14 then
  (idx y8.AY x17).bind fun y11=>
  if y11=y9 then
   ((((some false).bind fun r=>some (Sum.inr r)).bind fun r=>some (Sum.inr r)).bind fun r=>some (Sum.inr r)).bind fun r=>some (Sum.inr r)
  else
   (chk (x17+1)).bind fun z3=>
   nM y8 x14 y9 k z3
 else
  some (Sum.inl ())
def kJ (AA:Nat) (a0:AO) (y8:Am):Nat->(List Bool)->Int->Option ((List Bool) ⊕ ((List Bool) ⊕ (Bool)))
| 0,_,_=>none
| k+1,x13,x14=>
 if x14<(y8.AY.length:Int)then
  ((idx y8.AY x14).bind fun y9=>
  if y9<0 then
   (((some false).bind fun r=>some (Sum.inr r)).bind fun r=>some (Sum.inr r)).bind fun r=>some (Sum.inr r)
  else
   if (a0.AN.length:Int)<=y9 then
    (((some false).bind fun r=>some (Sum.inr r)).bind fun r=>some (Sum.inr r)).bind fun r=>some (Sum.inr r)
   else
    (idx a0.AN y9).bind fun y10=>
    if y10.At≠y8.At then
     (((some false).bind fun r=>some (Sum.inr r)).bind fun r=>some (Sum.inr r)).bind fun r=>some (Sum.inr r)
    else
     (nM y8 x14 y9 AA 0).bind fun o=>match o with
     | Sum.inr r=>some r
     | Sum.inl _=>
     (idx x13 y9).bind fun y12=>
     some (Sum.inl (x13.set y9.toNat true))).bind fun o=>match o with
  | Sum.inr r=>some r
  | Sum.inl x15=>
  (chk (x14+1)).bind fun z4=>
  kJ AA a0 y8 k x15 z4
 else
  some (Sum.inl x13)
def lR (AA:Nat) (a0:AO):Nat->(List Bool)->Int->Option ((List Bool) ⊕ (Bool))
| 0,_,_=>none
| k+1,x8,x9=>
 if x9<(a0.AP.length:Int)then
  ((idx a0.AP x9).bind fun y8=>
  if y8.At<0 then
   ((some false).bind fun r=>some (Sum.inr r)).bind fun r=>some (Sum.inr r)
  else
   if (a0.AR.length:Int)<y8.At then
    ((some false).bind fun r=>some (Sum.inr r)).bind fun r=>some (Sum.inr r)
   else
    if (y8.AY.length:Int)<1 then
     ((some false).bind fun r=>some (Sum.inr r)).bind fun r=>some (Sum.inr r)
    else
     if 3<(y8.AY.length:Int)then
      ((some false).bind fun r=>some (Sum.inr r)).bind fun r=>some (Sum.inr r)
     else
      kJ AA a0 y8 AA x8 0).bind fun o=>match o with
  | Sum.inr r=>some r
  | Sum.inl x10=>
  (chk (x9+1)).bind fun z5=>
  lR AA a0 k x10 z5
 else
  some (Sum.inl x8)
def pG (x5:List Bool):Nat->Int->Option ((Unit) ⊕ (Bool))
| 0,_=>none
| k+1,x19=>
 if x19<(x5.length:Int)then
  (idx x5 x19).bind fun y13=>
  bif y13 then
   (chk (x19+1)).bind fun z6=>
   pG x5 k z6
  else
   (some false).bind fun r=>some (Sum.inr r)
 else
  some (Sum.inl ())
def zT (AA:Nat) (a0:AO):Option (Bool):=
 if 30<(a0.AN.length:Int)then
  some false
 else
  if 30<(a0.AR.length:Int)then
   some false
  else
   if 30<(a0.AP.length:Int)then
    some false
   else
    (nQ a0 AA 0).bind fun o=>match o with
    | Sum.inr r=>some r
    | Sum.inl _=>
    (pD a0 AA 0).bind fun o=>match o with
    | Sum.inr r=>some r
    | Sum.inl _=>
    (mk false (a0.AN.length:Int)).bind fun y7=>
    (lR AA a0 AA y7 0).bind fun o=>match o with
    | Sum.inr r=>some r
    | Sum.inl x5=>
    (pG x5 AA 0).bind fun o=>match o with
    | Sum.inr r=>some r
    | Sum.inl _=>
    some true
theorem aIV (AA:Nat)  (a0:AO) (r:Bool) (H:zT AA a0=some r):FnS Tryz.prog 83 [fSt aB a0] [] (aK r) (fun _=>[]):=by
 unfold zT at H
 refine bG Tryz.func83 rfl Tryz.ntmps83 rfl (fun β=>?_)
 refine Z1 ?_
 refine Tn (bU rfl hh bS) fun b1=>?_
 refine Z2 ?_
 refine aI ?_
 revert H;refine I6 (fun c1 H=>?_) fun c1 H=>?_
 refine Yt c1 ?_
 refine Yt c1 ?_
 refine Yt c1 ?_
 refine Yt c1 ?_
 refine Yy (cZ rfl hh c1 hh) ?_
 refine Z12 ?_
 cases H
 refine aE [] (by decide) ?_
 exact To
 refine Yg c1 (bV 1 rfl hh (fa rfl) rfl) ?_
 refine Yh 0 rfl c1 (bB rfl hh (sc rfl) rfl Ent.rfl) ?_
 refine Yg c1 (fC rfl hh (us rfl)) ?_
 refine Yg c1 (gV rfl hh hh) ?_
 refine Yy (cL rfl hh c1 hh) ?_
 revert H;refine I1 (fun c2 H=>?_) fun c2 H=>?_
 refine Yt c2 ?_
 refine Yt c2 ?_
 refine Yt c2 ?_
 refine Yt c2 ?_
 refine Yy (cZ rfl hh c2 hh) ?_
 refine Z6 ?_
 cases H
 refine aE [] (by decide) ?_
 exact To
 refine Yg c2 (bV 2 rfl hh (fa rfl) rfl) ?_
 refine Yh 0 rfl c2 (bB rfl hh (sc rfl) rfl Ent.rfl) ?_
 refine Yg c2 (fC rfl hh (us rfl)) ?_
 refine Yg c2 (gV rfl hh hh) ?_
 refine Yy (cL rfl hh c2 hh) ?_
 revert H;refine I1 (fun c3 H=>?_) fun c3 H=>?_
 refine dD hh c3 ?_
 refine Z4 ?_
 cases H
 refine aE [] (by decide) ?_
 exact To
 refine dB hh c3 ?_
 revert H;refine B2 fun o1 H Hr1=>?_
 refine aR (ι:=Unit) (fun i=>o1=Sum.inl ()) (fun i=>[(1,fEq (ptr b1))]) (fun i=>[aA b1 77 [fSl aW a0.AN,fSl bD a0.AR,fSl aY a0.AP]]) ?_ ?_
 refine Z4 ?_
 refine Tl (ι:=Nat × Int) (fun i=>nQ a0 i.1 i.2=_) (fun i=>i.1) (fun i=>[(1,fEq (ptr b1)),(3,fI i.2)]) (fun i=>[aA b1 77 [fSl aW a0.AN,fSl bD a0.AR,fSl aY a0.AP]]) (AA,0) H ?_
 clear H;rintro⟨k1,x2⟩ H
 replace H:nQ a0 k1 x2=_:=H
 try dsimp only
 obtain _ | k1:=k1
 rw [nQ]at H;cases H
 rw [nQ]at H
 refine aI ?_
 revert H;refine I7 (fun c4 H=>?_) fun c4 H=>?_
 refine dD hh c4 ?_
 refine Z2 ?_
 refine aI ?_
 refine Z1 ?_
 refine aI ?_
 revert H;refine bs fun y1 h1 H=>?_
 revert H;refine is (fun c5 H=>?_) fun c5 H=>?_
 apply bL (ods:=[_,_,_,_,_,_,_,_,_,_,_,_,_,_,_,_,_,_,_,_,_,_,_,_,_,_,_,_,_,_,_,_,_,_,_,_,_]) 37 0 1 bK rfl rfl rfl
 refine ND ?_
 refine M3 ?_
 intros
 refine My (cT rfl hh hh (el rfl) h1) fun _=>?_
 refine M4 ?_
 intros
 refine Mt c5 fun _=>?_
 refine Mt c5 fun _=>?_
 refine Mt c5 fun _=>?_
 refine Mt c5 fun _=>?_
 refine Mt c5 fun _=>?_
 refine Mt c5 fun _=>?_
 refine Mt c5 fun _=>?_
 refine Mt c5 fun _=>?_
 refine Mt c5 fun _=>?_
 refine Mt c5 fun _=>?_
 refine My (cZ rfl hh c5 hh) fun _=>?_
 refine M8 ?_
 intros
 refine M8 ?_
 intros
 refine M2 ?_
 intros
 revert H;refine B12 fun r1 H e1=>?_
 cases e1;cases Hr1
 cases H
 refine aE [] (by decide) ?_
 exact To
 exact fk
 kernel_rfl
 revert H;refine bs fun y2 h2 H=>?_
 revert H;refine is (fun c6 H=>?_) fun c6 H=>?_
 apply bL (ods:=[_,_,_,_,_,_,_,_,_,_,_,_,_,_,_,_,_,_,_,_,_,_,_,_,_,_,_,_,_,_,_,_,_,_,_,_,_]) 37 0 1 bK rfl rfl rfl
 refine ND ?_
 refine M3 ?_
 intros
 refine My (cT rfl hh hh (el rfl) h1) fun _=>?_
 refine M4 ?_
 intros
 refine Mg c5 (bV 0 rfl hh (fa rfl) rfl) fun _=>?_
 refine dJ (od:=odC [0] false (fSl aW a0.AN) [cQ]) (ps:=[0]) (φ:=fSl aW a0.AN) rfl (fun _=>rfl) ⟨_,_,rfl,rfl,c5⟩ rfl rfl (bB rfl hh (sc rfl) rfl Ent.rfl) (fun _=>?_)
 refine Mg c5 (cF rfl hh) fun _=>?_
 refine Mg c5 (cT rfl hh hh (el rfl) h2) fun _=>?_
 refine Mg c5 (gD (t':=tI) (z:=y2.At) rfl hh (fa rfl) rfl) fun _=>?_
 refine Mg c5 (fY rfl hh (sc rfl) rfl) fun _=>?_
 refine Mg c5 (bV 1 rfl hh (fa rfl) rfl) fun _=>?_
 refine dJ (od:=odC [0] false (fSl bD a0.AR) [cQ]) (ps:=[0]) (φ:=fSl bD a0.AR) rfl (fun _=>rfl) ⟨_,_,rfl,rfl,c5⟩ rfl rfl (bB rfl hh (sc rfl) rfl Ent.rfl) (fun _=>?_)
 refine Mg c5 (fC rfl hh (us rfl)) fun _=>?_
 refine Mg c5 (gV rfl hh hh) fun _=>?_
 refine My (cL rfl hh c5 hh) fun _=>?_
 refine M1 ?_
 intros
 refine Mt c6 fun _=>?_
 refine Mt c6 fun _=>?_
 refine Mt c6 fun _=>?_
 refine Mt c6 fun _=>?_
 refine Mt c6 fun _=>?_
 refine Mt c6 fun _=>?_
 refine Mt c6 fun _=>?_
 refine My (cZ rfl hh c6 hh) fun _=>?_
 refine M8 ?_
 intros
 refine M1 ?_
 intros
 revert H;refine B12 fun r2 H e2=>?_
 cases e2;cases Hr1
 cases H
 refine aE [] (by decide) ?_
 exact To
 exact fk
 kernel_rfl
 revert H;refine bs fun y3 h3 H=>?_
 revert H;refine is (fun c7 H=>?_) fun c7 H=>?_
 apply bL (ods:=[_,_,_,_,_,_,_,_,_,_,_,_,_,_,_,_,_,_,_,_,_,_,_,_,_,_,_,_,_,_,_,_,_,_,_,_,_]) 37 0 1 bK rfl rfl rfl
 refine ND ?_
 refine M3 ?_
 intros
 refine My (cT rfl hh hh (el rfl) h1) fun _=>?_
 refine M4 ?_
 intros
 refine Mg c5 (bV 0 rfl hh (fa rfl) rfl) fun _=>?_
 refine dJ (od:=odC [0] false (fSl aW a0.AN) [cQ]) (ps:=[0]) (φ:=fSl aW a0.AN) rfl (fun _=>rfl) ⟨_,_,rfl,rfl,c5⟩ rfl rfl (bB rfl hh (sc rfl) rfl Ent.rfl) (fun _=>?_)
 refine Mg c5 (cF rfl hh) fun _=>?_
 refine Mg c5 (cT rfl hh hh (el rfl) h2) fun _=>?_
 refine Mg c5 (gD (t':=tI) (z:=y2.At) rfl hh (fa rfl) rfl) fun _=>?_
 refine Mg c5 (fY rfl hh (sc rfl) rfl) fun _=>?_
 refine Mg c5 (bV 1 rfl hh (fa rfl) rfl) fun _=>?_
 refine dJ (od:=odC [0] false (fSl bD a0.AR) [cQ]) (ps:=[0]) (φ:=fSl bD a0.AR) rfl (fun _=>rfl) ⟨_,_,rfl,rfl,c5⟩ rfl rfl (bB rfl hh (sc rfl) rfl Ent.rfl) (fun _=>?_)
 refine Mg c5 (fC rfl hh (us rfl)) fun _=>?_
 refine Mg c5 (gV rfl hh hh) fun _=>?_
 refine My (cL rfl hh c5 hh) fun _=>?_
 refine M1 ?_
 intros
 refine Mg c6 (bV 0 rfl hh (fa rfl) rfl) fun _=>?_
 refine dJ (od:=odC [0] false (fSl aW a0.AN) [cQ]) (ps:=[0]) (φ:=fSl aW a0.AN) rfl (fun _=>rfl) ⟨_,_,rfl,rfl,c6⟩ rfl rfl (bB rfl hh (sc rfl) rfl Ent.rfl) (fun _=>?_)
 refine Mg c6 (cF rfl hh) fun _=>?_
 refine Mg c6 (cT rfl hh hh (el rfl) h3) fun _=>?_
 refine Mg c6 (gD (t':=tI) (z:=y3.Ap) rfl hh (fa rfl) rfl) fun _=>?_
 refine Mg c6 (fY rfl hh (sc rfl) rfl) fun _=>?_
 refine Mg c6 (xA rfl hh hh) fun _=>?_
 refine My (cL rfl hh c6 hh) fun _=>?_
 refine M1 ?_
 intros
 refine Mt c7 fun _=>?_
 refine Mt c7 fun _=>?_
 refine Mt c7 fun _=>?_
 refine Mt c7 fun _=>?_
 refine Mt c7 fun _=>?_
 refine Mt c7 fun _=>?_
 refine Mt c7 fun _=>?_
 refine My (cZ rfl hh c7 hh) fun _=>?_
 revert H;refine B12 fun r3 H e3=>?_
 cases e3;cases Hr1
 cases H
 refine aE [] (by decide) ?_
 exact To
 exact fk
 kernel_rfl
 revert H;refine bs fun y4 h4 H=>?_
 apply bL (ods:=[_,_,_,_,_,_,_,_,_,_,_,_,_,_,_,_,_,_,_,_,_,_,_,_,_,_,_,_,_,_,_,_,_,_,_,_,_]) 37 0 1 bK rfl rfl rfl
 refine ND ?_
 refine M3 ?_
 intros
 refine My (cT rfl hh hh (el rfl) h1) fun _=>?_
 refine M4 ?_
 intros
 refine Mg c5 (bV 0 rfl hh (fa rfl) rfl) fun _=>?_
 refine dJ (od:=odC [0] false (fSl aW a0.AN) [cQ]) (ps:=[0]) (φ:=fSl aW a0.AN) rfl (fun _=>rfl) ⟨_,_,rfl,rfl,c5⟩ rfl rfl (bB rfl hh (sc rfl) rfl Ent.rfl) (fun _=>?_)
 refine Mg c5 (cF rfl hh) fun _=>?_
 refine Mg c5 (cT rfl hh hh (el rfl) h2) fun _=>?_
 refine Mg c5 (gD (t':=tI) (z:=y2.At) rfl hh (fa rfl) rfl) fun _=>?_
 refine Mg c5 (fY rfl hh (sc rfl) rfl) fun _=>?_
 refine Mg c5 (bV 1 rfl hh (fa rfl) rfl) fun _=>?_
 refine dJ (od:=odC [0] false (fSl bD a0.AR) [cQ]) (ps:=[0]) (φ:=fSl bD a0.AR) rfl (fun _=>rfl) ⟨_,_,rfl,rfl,c5⟩ rfl rfl (bB rfl hh (sc rfl) rfl Ent.rfl) (fun _=>?_)
 refine Mg c5 (fC rfl hh (us rfl)) fun _=>?_
 refine Mg c5 (gV rfl hh hh) fun _=>?_
 refine My (cL rfl hh c5 hh) fun _=>?_
 refine M1 ?_
 intros
 refine Mg c6 (bV 0 rfl hh (fa rfl) rfl) fun _=>?_
 refine dJ (od:=odC [0] false (fSl aW a0.AN) [cQ]) (ps:=[0]) (φ:=fSl aW a0.AN) rfl (fun _=>rfl) ⟨_,_,rfl,rfl,c6⟩ rfl rfl (bB rfl hh (sc rfl) rfl Ent.rfl) (fun _=>?_)
 refine Mg c6 (cF rfl hh) fun _=>?_
 refine Mg c6 (cT rfl hh hh (el rfl) h3) fun _=>?_
 refine Mg c6 (gD (t':=tI) (z:=y3.Ap) rfl hh (fa rfl) rfl) fun _=>?_
 refine Mg c6 (fY rfl hh (sc rfl) rfl) fun _=>?_
 refine Mg c6 (xA rfl hh hh) fun _=>?_
 refine My (cL rfl hh c6 hh) fun _=>?_
 refine M1 ?_
 intros
 refine Mg c7 (bV 0 rfl hh (fa rfl) rfl) fun _=>?_
 refine dJ (od:=odC [0] false (fSl aW a0.AN) [cQ]) (ps:=[0]) (φ:=fSl aW a0.AN) rfl (fun _=>rfl) ⟨_,_,rfl,rfl,c7⟩ rfl rfl (bB rfl hh (sc rfl) rfl Ent.rfl) (fun _=>?_)
 refine Mg c7 (cF rfl hh) fun _=>?_
 refine Mg c7 (cT rfl hh hh (el rfl) h4) fun _=>?_
 refine Mg c7 (gD (t':=tI) (z:=y4.Ap) rfl hh (fa rfl) rfl) fun _=>?_
 refine Mg c7 (fY rfl hh (sc rfl) rfl) fun _=>?_
 refine Mg c7 (gV rfl hh hh) fun _=>?_
 refine My (cL rfl hh c7 hh) fun _=>?_
 revert H;refine I2 (fun c8 H=>?_) fun c8 H=>?_
 refine dD hh c8 ?_
 revert H;refine B9 fun r4 H e4=>?_
 cases e4;cases Hr1
 cases H
 refine aE [] (by decide) ?_
 exact To
 refine dB hh c8 ?_
 revert H;refine B5 fun z1 h5 H=>?_
 refine Yy (fP rfl hh hh h5) ?_
 refine Z2 ?_
 exact Tm ((k1,z1)) ⟨H,ls⟩
 exact fk
 kernel_rfl
 refine dB hh c4 ?_
 refine Z5 ?_
 exact Tm (()) (ij H)
 clear H;intro i hi;subst o1;have H:=Hr1;clear Hr1;try dsimp only at H
 try dsimp only
 revert H;refine bs fun o2 H Hr2=>?_
 refine aR (ι:=Unit) (fun i=>o2=Sum.inl ()) (fun i=>[(1,fEq (ptr b1))]) (fun i=>[aA b1 77 [fSl aW a0.AN,fSl bD a0.AR,fSl aY a0.AP]]) ?_ ?_
 refine Z4 ?_
 refine Tl (ι:=Nat × Int) (fun i=>pD a0 i.1 i.2=_) (fun i=>i.1) (fun i=>[(1,fEq (ptr b1)),(4,fI i.2)]) (fun i=>[aA b1 77 [fSl aW a0.AN,fSl bD a0.AR,fSl aY a0.AP]]) (AA,0) H ?_
 clear H;rintro⟨k2,x4⟩ H
 replace H:pD a0 k2 x4=_:=H
 try dsimp only
 obtain _ | k2:=k2
 rw [pD]at H;cases H
 rw [pD]at H
 refine aI ?_
 revert H;refine I7 (fun c9 H=>?_) fun c9 H=>?_
 refine dD hh c9 ?_
 refine Z2 ?_
 refine aI ?_
 revert H;refine B5 fun y5 h6 H=>?_
 refine Yy (cT rfl hh hh (el rfl) h6) ?_
 revert H;refine I4 (fun c10 H=>?_) fun c10 H=>?_
 refine Yt c10 ?_
 refine Yt c10 ?_
 refine Yt c10 ?_
 refine Yt c10 ?_
 refine Yt c10 ?_
 refine Yt c10 ?_
 refine Yt c10 ?_
 refine Yt c10 ?_
 refine Yy (cZ rfl hh c10 hh) ?_
 revert H;refine B11 fun r5 H e5=>?_
 cases e5;cases Hr2
 cases H
 refine aE [] (by decide) ?_
 exact To
 refine Yg c10 (bV 1 rfl hh (fa rfl) rfl) ?_
 refine Yh 0 rfl c10 (bB rfl hh (sc rfl) rfl Ent.rfl) ?_
 refine Yg c10 (cF rfl hh) ?_
 revert H;refine bs fun y6 h7 H=>?_
 refine Yg c10 (cT rfl hh hh (el rfl) h7) ?_
 refine Yg c10 (gD (t':=tI) (z:=y6.In) rfl hh (fa rfl) rfl) ?_
 refine Yg c10 (fY rfl hh (sc rfl) rfl) ?_
 refine Yg c10 (cF rfl hh) ?_
 refine Yg c10 (gV rfl hh hh) ?_
 refine Yy (cL rfl hh c10 hh) ?_
 revert H;refine I1 (fun c11 H=>?_) fun c11 H=>?_
 refine dD hh c11 ?_
 revert H;refine B9 fun r6 H e6=>?_
 cases e6;cases Hr2
 cases H
 refine aE [] (by decide) ?_
 exact To
 refine dB hh c11 ?_
 revert H;refine B5 fun z2 h8 H=>?_
 refine Yy (fP rfl hh hh h8) ?_
 refine Z2 ?_
 exact Tm ((k2,z2)) ⟨H,ls⟩
 refine dB hh c9 ?_
 refine Z5 ?_
 exact Tm (()) (ij H)
 clear H;intro i hi;subst o2;have H:=Hr2;clear Hr2;try dsimp only at H
 try dsimp only
 revert H;refine B4 fun y7 h9 H=>?_
 refine Tn (rC (t:=bE) (z:=false) rfl hh (et rfl) rfl aBE rfl h9) fun b2=>?_
 generalize (Value.slice (some ⟨b2,0,none⟩) _ _)=v1
 refine aJ 0 rfl (fun hc_v1=>?_)
 revert H;refine B2 fun o3 H Hr3=>?_
 refine aR (ι:=List Bool) (fun i=>o3=Sum.inl i) (fun i=>[(5,fEq v1)]) (fun i=>[aA b1 77 [fSl aW a0.AN,fSl bD a0.AR,fSl aY a0.AP],aC v1 4 bE i]) ?_ ?_
 refine Z4 ?_
 refine aE [1,0] (by decide) ?_
 refine Tl (ι:=Nat × List Bool × Int) (fun i=>lR AA a0 i.1 i.2.1 i.2.2=_) (fun i=>i.1) (fun i=>[(1,fEq (ptr b1)),(5,fEq v1),(6,fI i.2.2)]) (fun i=>[aA b1 77 [fSl aW a0.AN,fSl bD a0.AR,fSl aY a0.AP],aC v1 4 bE i.2.1]) (AA,y7,0) H ?_
 clear H;rintro⟨k3,x8,x9⟩ H
 replace H:lR AA a0 k3 x8 x9=_:=H
 try dsimp only
 obtain _ | k3:=k3
 rw [lR]at H;cases H
 rw [lR]at H
 refine aI ?_
 revert H;refine I7 (fun c12 H=>?_) fun c12 H=>?_
 refine dD hh c12 ?_
 revert H;refine B2 fun o4 H Hr4=>?_
 refine aR (ι:=List Bool) (fun i=>o4=Sum.inl i) (fun i=>[(1,fEq (ptr b1)),(5,fEq v1),(6,fI x9)]) (fun i=>[aA b1 77 [fSl aW a0.AN,fSl bD a0.AR,fSl aY a0.AP],aC v1 4 bE i]) ?_ ?_
 revert H;refine B5 fun y8 h10 H=>?_
 refine Yy (cT rfl hh hh (el rfl) h10) ?_
 refine Z1 ?_
 refine Tn (bN rfl rU rfl) fun b3=>?_
 refine cG (φs':=[fI y8.At,fSl tI y8.AY,fI y8.AV]) a2g rfl rfl (has rfl) (has rfl) (aF (aH a2g) (aF (aS) (aF (aH a2g) bF))) (sz rfl) rfl rfl rfl ?_
 refine Z1 ?_
 refine aI ?_
 revert H;refine I5 (fun c13 H=>?_) fun c13 H=>?_
 refine Yt c13 ?_
 refine Yt c13 ?_
 refine Yt c13 ?_
 refine Yt c13 ?_
 refine Yt c13 ?_
 refine Yt c13 ?_
 refine Yy (cZ rfl hh c13 hh) ?_
 refine Z12 ?_
 revert H;refine B8 fun r7 H e7=>?_
 cases e7;cases Hr4
 revert H;refine B3 fun r8 H e8=>?_
 cases e8;cases Hr3
 cases H
 refine aE [] (by decide) ?_
 exact To
 refine Yg c13 (bV 0 rfl hh (fa rfl) rfl) ?_
 refine Yh 0 rfl c13 (bB rfl hh (sc rfl) rfl Ent.rfl) ?_
 refine Yg c13 (bV 1 rfl hh (fa rfl) rfl) ?_
 refine Yh 1 rfl c13 (bB rfl hh (sc rfl) rfl Ent.rfl) ?_
 refine Yg c13 (fC rfl hh (us rfl)) ?_
 refine Yg c13 (gV rfl hh hh) ?_
 refine Yy (cL rfl hh c13 hh) ?_
 revert H;refine I1 (fun c14 H=>?_) fun c14 H=>?_
 refine Yt c14 ?_
 refine Yt c14 ?_
 refine Yt c14 ?_
 refine Yt c14 ?_
 refine Yy (cZ rfl hh c14 hh) ?_
 refine Z12 ?_
 revert H;refine B2 fun r9 H e9=>?_
 cases e9;cases Hr4
 revert H;refine B3 fun r10 H e10=>?_
 cases e10;cases Hr3
 cases H
 refine aE [] (by decide) ?_
 exact To
 refine Yg c14 (bV 1 rfl hh (fa rfl) rfl) ?_
 refine Yh 0 rfl c14 (bB rfl hh (sc rfl) rfl Ent.rfl) ?_
 refine Yg c14 (fC rfl hh (us rfl)) ?_
 refine Yg c14 (xA rfl hh hh) ?_
 refine Yy (cL rfl hh c14 hh) ?_
 revert H;refine I1 (fun c15 H=>?_) fun c15 H=>?_
 refine Yt c15 ?_
 refine Yt c15 ?_
 refine Yt c15 ?_
 refine Yt c15 ?_
 refine Yy (cZ rfl hh c15 hh) ?_
 revert H;refine B8 fun r11 H e11=>?_
 cases e11;cases Hr4
 revert H;refine B3 fun r12 H e12=>?_
 cases e12;cases Hr3
 cases H
 refine aE [] (by decide) ?_
 exact To
 refine Yg c15 (bV 1 rfl hh (fa rfl) rfl) ?_
 refine Yh 0 rfl c15 (bB rfl hh (sc rfl) rfl Ent.rfl) ?_
 refine Yg c15 (fC rfl hh (us rfl)) ?_
 refine Yg c15 (gV rfl hh hh) ?_
 refine Yy (cL rfl hh c15 hh) ?_
 revert H;refine I1 (fun c16 H=>?_) fun c16 H=>?_
 refine dD hh c16 ?_
 revert H;refine B6 fun r13 H e13=>?_
 cases e13;cases Hr4
 revert H;refine B3 fun r14 H e14=>?_
 cases e14;cases Hr3
 cases H
 refine aE [] (by decide) ?_
 exact To
 refine dB hh c16 ?_
 refine Z6 ?_
 refine Tl (ι:=Nat × List Bool × Int) (fun i=>kJ AA a0 y8 i.1 i.2.1 i.2.2=_) (fun i=>i.1) (fun i=>[(1,fEq (ptr b1)),(5,fEq v1),(6,fI x9),(7,fEq (ptr b3)),(8,fI i.2.2)]) (fun i=>[aA b3 81 [fI y8.At,fSl tI y8.AY,fI y8.AV],aA b1 77 [fSl aW a0.AN,fSl bD a0.AR,fSl aY a0.AP],aC v1 4 bE i.2.1]) (AA,x8,0) H ?_
 clear H;rintro⟨k4,x13,x14⟩ H
 replace H:kJ AA a0 y8 k4 x13 x14=_:=H
 try dsimp only
 obtain _ | k4:=k4
 rw [kJ]at H;cases H
 rw [kJ]at H
 refine aI ?_
 revert H;refine I7 (fun c17 H=>?_) fun c17 H=>?_
 refine dD hh c17 ?_
 revert H;refine B2 fun o5 H Hr5=>?_
 refine aR (ι:=List Bool) (fun i=>o5=Sum.inl i) (fun i=>[(1,fEq (ptr b1)),(5,fEq v1),(6,fI x9),(7,fEq (ptr b3)),(8,fI x14)]) (fun i=>[aA b3 81 [fI y8.At,fSl tI y8.AY,fI y8.AV],aA b1 77 [fSl aW a0.AN,fSl bD a0.AR,fSl aY a0.AP],aC v1 4 bE i]) ?_ ?_
 revert H;refine B5 fun y9 h11 H=>?_
 refine Yy (cT rfl hh hh (el rfl) h11) ?_
 refine Z3 ?_
 refine aI ?_
 refine aI ?_
 revert H;refine is (fun c18 H=>?_) fun c18 H=>?_
 apply bL (ods:=[_,_,_,_,_,_,_,_,_,_,_,_,_,_,_,_,_,_,_,_]) 20 0 3 bK rfl rfl rfl
 refine ND ?_
 refine M3 ?_
 intros
 refine Mt c18 fun _=>?_
 refine Mt c18 fun _=>?_
 refine Mt c18 fun _=>?_
 refine Mt c18 fun _=>?_
 refine Mt c18 fun _=>?_
 refine My (cZ rfl hh c18 hh) fun _=>?_
 refine M8 ?_
 intros
 refine M3 ?_
 intros
 revert H;refine B9 fun r15 H e15=>?_
 cases e15;cases Hr5
 revert H;refine B4 fun r16 H e16=>?_
 cases e16;cases Hr4
 revert H;refine B3 fun r17 H e17=>?_
 cases e17;cases Hr3
 cases H
 refine aE [] (by decide) ?_
 exact To
 exact fk
 kernel_rfl
 revert H;refine is (fun c19 H=>?_) fun c19 H=>?_
 apply bL (ods:=[_,_,_,_,_,_,_,_,_,_,_,_,_,_,_,_,_,_,_,_]) 20 0 3 bK rfl rfl rfl
 refine ND ?_
 refine M3 ?_
 intros
 refine Mg c18 (cF rfl hh) fun _=>?_
 refine Mg c18 (bV 0 rfl hh (fa rfl) rfl) fun _=>?_
 refine dJ (od:=odC [1] false (fSl aW a0.AN) [cQ]) (ps:=[1]) (φ:=fSl aW a0.AN) rfl (fun _=>rfl) ⟨_,_,rfl,rfl,c18⟩ rfl rfl (bB rfl hh (sc rfl) rfl Ent.rfl) (fun _=>?_)
 refine Mg c18 (fC rfl hh (us rfl)) fun _=>?_
 refine Mg c18 (sI rfl hh hh) fun _=>?_
 refine My (cL rfl hh c18 hh) fun _=>?_
 refine M1 ?_
 intros
 refine Mt c19 fun _=>?_
 refine Mt c19 fun _=>?_
 refine Mt c19 fun _=>?_
 refine Mt c19 fun _=>?_
 refine Mt c19 fun _=>?_
 refine Mt c19 fun _=>?_
 refine Mt c19 fun _=>?_
 refine Mt c19 fun _=>?_
 refine Mt c19 fun _=>?_
 refine My (cZ rfl hh c19 hh) fun _=>?_
 revert H;refine B9 fun r18 H e18=>?_
 cases e18;cases Hr5
 revert H;refine B4 fun r19 H e19=>?_
 cases e19;cases Hr4
 revert H;refine B3 fun r20 H e20=>?_
 cases e20;cases Hr3
 cases H
 refine aE [] (by decide) ?_
 exact To
 exact fk
 kernel_rfl
 revert H;refine bs fun y10 h12 H=>?_
 apply bL (ods:=[_,_,_,_,_,_,_,_,_,_,_,_,_,_,_,_,_,_,_,_]) 20 0 3 bK rfl rfl rfl
 refine ND ?_
 refine M3 ?_
 intros
 refine Mg c18 (cF rfl hh) fun _=>?_
 refine Mg c18 (bV 0 rfl hh (fa rfl) rfl) fun _=>?_
 refine dJ (od:=odC [1] false (fSl aW a0.AN) [cQ]) (ps:=[1]) (φ:=fSl aW a0.AN) rfl (fun _=>rfl) ⟨_,_,rfl,rfl,c18⟩ rfl rfl (bB rfl hh (sc rfl) rfl Ent.rfl) (fun _=>?_)
 refine Mg c18 (fC rfl hh (us rfl)) fun _=>?_
 refine Mg c18 (sI rfl hh hh) fun _=>?_
 refine My (cL rfl hh c18 hh) fun _=>?_
 refine M1 ?_
 intros
 refine Mg c19 (bV 0 rfl hh (fa rfl) rfl) fun _=>?_
 refine dJ (od:=odC [1] false (fSl aW a0.AN) [cQ]) (ps:=[1]) (φ:=fSl aW a0.AN) rfl (fun _=>rfl) ⟨_,_,rfl,rfl,c19⟩ rfl rfl (bB rfl hh (sc rfl) rfl Ent.rfl) (fun _=>?_)
 refine Mg c19 (cF rfl hh) fun _=>?_
 refine Mg c19 (cT rfl hh hh (el rfl) h12) fun _=>?_
 refine Mg c19 (gD (t':=tI) (z:=y10.At) rfl hh (fa rfl) rfl) fun _=>?_
 refine Mg c19 (fY rfl hh (sc rfl) rfl) fun _=>?_
 refine Mg c19 (bV 0 rfl hh (fa rfl) rfl) fun _=>?_
 refine dJ (od:=odC [0] false (fI y8.At) [cQ]) (ps:=[0]) (φ:=fI y8.At) rfl (fun _=>rfl) ⟨_,_,rfl,rfl,c19⟩ rfl rfl (bB rfl hh (sc rfl) rfl Ent.rfl) (fun _=>?_)
 refine Mg c19 (mK rfl hh hh) fun _=>?_
 refine My (cL rfl hh c19 hh) fun _=>?_
 revert H;refine I2 (fun c20 H=>?_) fun c20 H=>?_
 refine dD hh c20 ?_
 revert H;refine B6 fun r21 H e21=>?_
 cases e21;cases Hr5
 revert H;refine B4 fun r22 H e22=>?_
 cases e22;cases Hr4
 revert H;refine B3 fun r23 H e23=>?_
 cases e23;cases Hr3
 cases H
 refine aE [] (by decide) ?_
 exact To
 refine dB hh c20 ?_
 revert H;refine B2 fun o6 H Hr6=>?_
 refine aR (ι:=Unit) (fun i=>o6=Sum.inl ()) (fun i=>[(1,fEq (ptr b1)),(5,fEq v1),(6,fI x9),(7,fEq (ptr b3)),(8,fI x14),(9,fI y9)]) (fun i=>[aA b3 81 [fI y8.At,fSl tI y8.AY,fI y8.AV],aA b1 77 [fSl aW a0.AN,fSl bD a0.AR,fSl aY a0.AP],aC v1 4 bE x13]) ?_ ?_
 refine Z4 ?_
 refine Tl (ι:=Nat × Int) (fun i=>nM y8 x14 y9 i.1 i.2=_) (fun i=>i.1) (fun i=>[(1,fEq (ptr b1)),(5,fEq v1),(6,fI x9),(7,fEq (ptr b3)),(8,fI x14),(9,fI y9),(10,fI i.2)]) (fun i=>[aA b3 81 [fI y8.At,fSl tI y8.AY,fI y8.AV],aA b1 77 [fSl aW a0.AN,fSl bD a0.AR,fSl aY a0.AP],aC v1 4 bE x13]) (AA,0) H ?_
 clear H;rintro⟨k5,x17⟩ H
 replace H:nM y8 x14 y9 k5 x17=_:=H
 try dsimp only
 obtain _ | k5:=k5
 rw [nM]at H;cases H
 rw [nM]at H
 refine aI ?_
 revert H;refine I5 (fun c21 H=>?_) fun c21 H=>?_
 refine dD hh c21 ?_
 refine Z2 ?_
 refine aI ?_
 revert H;refine B5 fun y11 h13 H=>?_
 refine Yy (cT rfl hh hh (el rfl) h13) ?_
 revert H;refine I4 (fun c22 H=>?_) fun c22 H=>?_
 refine dD hh c22 ?_
 revert H;refine B9 fun r24 H e24=>?_
 cases e24;cases Hr6
 revert H;refine B2 fun r25 H e25=>?_
 cases e25;cases Hr5
 revert H;refine B4 fun r26 H e26=>?_
 cases e26;cases Hr4
 revert H;refine B3 fun r27 H e27=>?_
 cases e27;cases Hr3
 cases H
 refine aE [] (by decide) ?_
 exact To
 refine dB hh c22 ?_
 revert H;refine B5 fun z3 h14 H=>?_
 refine Yy (fP rfl hh hh h14) ?_
 refine Z2 ?_
 exact Tm ((k5,z3)) ⟨H,ls⟩
 refine dB hh c21 ?_
 refine Z5 ?_
 exact Tm (()) (ij H)
 clear H;intro i hi;subst o6;have H:=Hr6;clear Hr6;try dsimp only at H
 try dsimp only
 revert H;refine B3 fun y12 h15 H=>?_
 refine Yo 2 rfl (jR rfl hh hh (el rfl) h15) ?_
 refine dK ?_
 refine aDQ (z':=true) a2g rfl rfl rfl (has rfl) (has rfl) (aH a2g) (sz rfl) (eF h15) rfl rfl ?_
 refine Z3 ?_
 refine aE [1,2,0] (by decide) ?_
 exact Tm (x13.set y9.toNat true) (ij H)
 exact fk
 kernel_rfl
 clear H;intro x15 hi;subst o5;have H:=Hr5;clear Hr5;try dsimp only at H
 try dsimp only
 revert H;refine B2 fun z4 h16 H=>?_
 refine Yy (fP rfl hh hh h16) ?_
 refine Z2 ?_
 exact Tm ((k4,x15,z4)) ⟨H,ls⟩
 refine dB hh c17 ?_
 refine Z6 ?_
 refine aE [1,2] (by decide) ?_
 exact Tm (x13) (ij H)
 clear H;intro x10 hi;subst o4;have H:=Hr4;clear Hr4;try dsimp only at H
 try dsimp only
 revert H;refine B2 fun z5 h17 H=>?_
 refine Yy (fP rfl hh hh h17) ?_
 refine Z2 ?_
 exact Tm ((k3,x10,z5)) ⟨H,ls⟩
 refine dB hh c12 ?_
 refine Z5 ?_
 exact Tm (x8) (ij H)
 clear H;intro x5 hi;subst o3;have H:=Hr3;clear Hr3;try dsimp only at H
 try dsimp only
 revert H;refine bs fun o7 H Hr7=>?_
 refine aR (ι:=Unit) (fun i=>o7=Sum.inl ()) (fun i=>[]) (fun i=>[aA b1 77 [fSl aW a0.AN,fSl bD a0.AR,fSl aY a0.AP]]) ?_ ?_
 refine Z4 ?_
 refine Tl (ι:=Nat × Int) (fun i=>pG x5 i.1 i.2=_) (fun i=>i.1) (fun i=>[(5,fEq v1),(11,fI i.2)]) (fun i=>[aA b1 77 [fSl aW a0.AN,fSl bD a0.AR,fSl aY a0.AP],aC v1 4 bE x5]) (AA,0) H ?_
 clear H;rintro⟨k6,x19⟩ H
 replace H:pG x5 k6 x19=_:=H
 try dsimp only
 obtain _ | k6:=k6
 rw [pG]at H;cases H
 rw [pG]at H
 refine aI ?_
 revert H;refine I6 (fun c23 H=>?_) fun c23 H=>?_
 refine dD hh c23 ?_
 refine Z2 ?_
 refine aI ?_
 revert H;refine B4 fun y13 h18 H=>?_
 refine Yo 1 rfl (jR rfl hh hh (el rfl) h18) ?_
 refine Yo 1 rfl (kI rfl rfl hh (sc rfl) (eF h18) rfl) ?_
 refine Z2 ?_
 revert H;refine cs (fun c24 H=>?_) fun c24 H=>?_
 refine dB hh (pL c24) ?_
 revert H;refine B5 fun z6 h19 H=>?_
 refine Yy (fP rfl hh hh h19) ?_
 refine Z2 ?_
 exact Tm ((k6,z6)) ⟨H,ls⟩
 refine dD hh (qJ c24) ?_
 revert H;refine B9 fun r28 H e28=>?_
 cases e28;cases Hr7
 cases H
 refine aE [] (by decide) ?_
 exact To
 refine dB hh c23 ?_
 refine Z5 ?_
 refine aE [0] (by decide) ?_
 exact Tm (()) (ij H)
 clear H;intro i hi;subst o7;have H:=Hr7;clear Hr7;try dsimp only at H
 try dsimp only
 refine Z4 ?_
 cases H
 refine aE [] (by decide) ?_
 exact To
open Go.SX Go.SW Go.Dt
def pT (rec_r03_expNodes:AS->Int->Option (Int)) (a0:AS) (a1:Int):Nat->Int->Int->Option (Int)
| 0,_,_=>none
| k+1,x4,x5=>
 if x5<(a0.AM.length:Int)then
  if x4<=a1 then
   (idx a0.AM x5).bind fun y1=>
   (chk (a1 - x4)).bind fun z1=>
   (rec_r03_expNodes y1 z1).bind fun y2=>
   (chk (x4+y2)).bind fun z2=>
   (chk (x5+1)).bind fun z3=>
   pT rec_r03_expNodes a0 a1 k z2 z3
  else
   some x4
 else
  some x4
def lT:Nat->AS->Int->Option (Int)
| 0,_,_=>none
| AA+1,a0,a1=>
 (pT (lT AA) a0 a1 AA 1 0).bind fun x1=>
 some x1
theorem aIe:∀ (AA:Nat),(∀  (a0:AS) (a1:Int) (r:Int) (H:lT AA a0 a1=some r),FnS Tryz.prog 150 [fSt aO a0,fI a1] [] (fI r) (fun _=>[])):=by
 intro AA
 induction AA with
 | zero=>exact fun a0 a1 r H=>(by rw [lT]at H;cases H)
 | succ AA ih=>
 have ih_r03_expNodes:=@ih
 refine ?_
 intro a0 a1 r H
 rw [lT]at H
 refine bG Tryz.func150 rfl Tryz.ntmps150 rfl (fun β=>?_)
 refine Z1 ?_
 refine Tn (bU rfl hh bS) fun b1=>?_
 revert H;refine B5 fun o1 H Hr1=>?_
 refine aR (ι:=Int) (fun i=>o1=i) (fun i=>[(5,fI i)]) (fun i=>[aA b1 71 [fI a0.Op,fI a0.N,cU a0.AM]]) ?_ ?_
 refine Z4 ?_
 refine Tl (ι:=Nat × Int × Int) (fun i=>pT (lT AA) a0 a1 i.1 i.2.1 i.2.2=_) (fun i=>i.1) (fun i=>[(1,fI a1),(2,fEq (ptr b1)),(5,fI i.2.1),(6,fI i.2.2)]) (fun i=>[aA b1 71 [fI a0.Op,fI a0.N,cU a0.AM]]) (AA,1,0) H ?_
 clear H;rintro⟨k1,x4,x5⟩ H
 replace H:pT (lT AA) a0 a1 k1 x4 x5=_:=H
 try dsimp only
 obtain _ | k1:=k1
 rw [pT]at H;cases H
 rw [pT]at H
 refine aI ?_
 refine Z3 ?_
 refine Yo 0 rfl (bB rfl hh (sc rfl) rfl (eS eG)) ?_
 revert H;refine I3 (fun c1 H=>?_) fun c1 H=>?_
 revert H;refine I5 (fun c2 H=>?_) fun c2 H=>?_
 refine Z3 ?_
 refine aI ?_
 refine Z4 ?_
 refine Yo 0 rfl (bB rfl hh (sc rfl) rfl (eS eG)) ?_
 revert H;refine B1 fun y1 h1 H=>?_
 revert H;refine B4 fun z1 h2 H=>?_
 revert H;refine B1 fun y2 h3 H=>?_
 refine Tc (ih_r03_expNodes _ _ _ h3) ?_
 revert H;refine bs fun z2 h4 H=>?_
 revert H;refine B7 fun z3 h5 H=>?_
 refine Z3 ?_
 exact Tm ((k1,z2,z3)) ⟨H,ls⟩
 refine Z6 ?_
 exact Tm (x4) (ij H)
 refine Z11 ?_
 exact Tm (x4) (ij H)
 clear H;intro x1 hi;subst o1;have H:=Hr1;clear Hr1;try dsimp only at H
 try dsimp only
 refine Z5 ?_
 cases H
 refine aE [] (by decide) ?_
 exact To
def nK (rec_r03_expDepth:AS->Option (Int)) (a0:AS):Nat->Int->Int->Option (Int)
| 0,_,_=>none
| k+1,x4,x5=>
 if x5<(a0.AM.length:Int)then
  (idx a0.AM x5).bind fun y1=>
  (rec_r03_expDepth y1).bind fun y2=>
  (chk (x5+1)).bind fun z1=>
  nK rec_r03_expDepth a0 k (max x4 y2) z1
 else
  some x4
def lW:Nat->AS->Option (Int)
| 0,_=>none
| AA+1,a0=>
 (nK (lW AA) a0 AA 0 0).bind fun x1=>
 (chk (x1+1)).bind fun z2=>
 some z2
theorem aLs:∀ (AA:Nat),(∀  (a0:AS) (r:Int) (H:lW AA a0=some r),FnS Tryz.prog 151 [fSt aO a0] [] (fI r) (fun _=>[])):=by
 intro AA
 induction AA with
 | zero=>exact fun a0 r H=>(by rw [lW]at H;cases H)
 | succ AA ih=>
 have ih_r03_expDepth:=@ih
 refine ?_
 intro a0 r H
 rw [lW]at H
 refine bG Tryz.func151 rfl Tryz.ntmps151 rfl (fun β=>?_)
 refine Z1 ?_
 refine Tn (bU rfl hh bS) fun b1=>?_
 revert H;refine B5 fun o1 H Hr1=>?_
 refine aR (ι:=Int) (fun i=>o1=i) (fun i=>[(3,fI i)]) (fun i=>[aA b1 71 [fI a0.Op,fI a0.N,cU a0.AM]]) ?_ ?_
 refine Z4 ?_
 refine Tl (ι:=Nat × Int × Int) (fun i=>nK (lW AA) a0 i.1 i.2.1 i.2.2=_) (fun i=>i.1) (fun i=>[(1,fEq (ptr b1)),(3,fI i.2.1),(4,fI i.2.2)]) (fun i=>[aA b1 71 [fI a0.Op,fI a0.N,cU a0.AM]]) (AA,0,0) H ?_
 clear H;rintro⟨k1,x4,x5⟩ H
 replace H:nK (lW AA) a0 k1 x4 x5=_:=H
 try dsimp only
 obtain _ | k1:=k1
 rw [nK]at H;cases H
 rw [nK]at H
 refine aI ?_
 refine Z3 ?_
 refine Yo 0 rfl (bB rfl hh (sc rfl) rfl (eS eG)) ?_
 revert H;refine I3 (fun c1 H=>?_) fun c1 H=>?_
 refine Z3 ?_
 refine aI ?_
 refine Z4 ?_
 refine Yo 0 rfl (bB rfl hh (sc rfl) rfl (eS eG)) ?_
 revert H;refine B1 fun y1 h1 H=>?_
 revert H;refine B2 fun y2 h2 H=>?_
 refine Tc (ih_r03_expDepth _ _ h2) ?_
 refine Yy (o_max rfl hh hh) ?_
 revert H;refine B6 fun z1 h3 H=>?_
 refine Z3 ?_
 exact Tm ((k1,max x4 y2,z1)) ⟨H,ls⟩
 refine Z6 ?_
 exact Tm (x4) (ij H)
 clear H;intro x1 hi;subst o1;have H:=Hr1;clear Hr1;try dsimp only at H
 try dsimp only
 revert H;refine B2 fun z2 h4 H=>?_
 refine Z4 ?_
 cases H
 refine aE [] (by decide) ?_
 exact To
def sC:Nat->AS->Int->Option (Bool)
| 0,_,_=>none
| AA+1,a0,a1=>
 if a0.Op=1 then
  (if (a0.AM.length:Int)=0 then
   if (-1000000000)<=a0.N then
    some (decide (a0.N<=1000000000))
   else
    some false
  else
   some false).bind fun x1=>
  some x1
 else
  if a0.Op=2 then
   (if (a0.AM.length:Int)=0 then
    if 0<=a0.N then
     some (decide (a0.N<a1))
    else
     some false
   else
    some false).bind fun x2=>
   some x2
  else
   if a0.Op<3 then
    some false
   else
    if 7<a0.Op then
     some false
    else
     if (a0.AM.length:Int)≠2 then
      some false
     else
      if a0.N≠0 then
       some false
      else
       ((idx a0.AM 0).bind fun y1=>
       ((sC AA) y1 a1).bind fun y2=>
       bif y2 then
        (idx a0.AM 1).bind fun y3=>
        ((sC AA) y3 a1).bind fun y4=>
        some y4
       else
        some false).bind fun x3=>
       some x3
theorem aKG:∀ (AA:Nat),(∀  (a0:AS) (a1:Int) (r:Bool) (H:sC AA a0 a1=some r),FnS Tryz.prog 152 [fSt aO a0,fI a1] [] (aK r) (fun _=>[])):=by
 intro AA
 induction AA with
 | zero=>exact fun a0 a1 r H=>(by rw [sC]at H;cases H)
 | succ AA ih=>
 have ih_r03_expFormed:=@ih
 refine ?_
 intro a0 a1 r H
 rw [sC]at H
 refine bG Tryz.func152 rfl Tryz.ntmps152 rfl (fun β=>?_)
 refine Z1 ?_
 refine Tn (bU rfl hh bS) fun b1=>?_
 refine Z2 ?_
 refine aI ?_
 revert H;refine I7 (fun c1 H=>?_) fun c1 H=>?_
 revert H;refine B1 fun o1 H Hr1=>?_
 refine aR (ι:=Bool) (fun i=>o1=i) (fun i=>[(4,aK i)]) (fun i=>[aA b1 71 [fI a0.Op,fI a0.N,cU a0.AM]]) ?_ ?_
 refine Z2 ?_
 refine Yo 0 rfl (bB rfl hh (sc rfl) rfl (eS eG)) ?_
 revert H;refine I3 (fun c2 H=>?_) fun c2 H=>?_
 revert H;refine I5 (fun c3 H=>?_) fun c3 H=>?_
 refine Z6 ?_
 exact Tm (decide (a0.N<=1000000000)) (ij H)
 refine Z6 ?_
 exact Tm (false) (ij H)
 refine Z11 ?_
 exact Tm (false) (ij H)
 clear H;intro x1 hi;subst o1;have H:=Hr1;clear Hr1;try dsimp only at H
 try dsimp only
 refine Z3 ?_
 cases H
 refine aE [] (by decide) ?_
 exact To
 revert H;refine I7 (fun c4 H=>?_) fun c4 H=>?_
 revert H;refine B1 fun o2 H Hr2=>?_
 refine aR (ι:=Bool) (fun i=>o2=i) (fun i=>[(4,aK i)]) (fun i=>[aA b1 71 [fI a0.Op,fI a0.N,cU a0.AM]]) ?_ ?_
 refine Z2 ?_
 refine Yo 0 rfl (bB rfl hh (sc rfl) rfl (eS eG)) ?_
 revert H;refine I3 (fun c5 H=>?_) fun c5 H=>?_
 revert H;refine I5 (fun c6 H=>?_) fun c6 H=>?_
 refine Z7 ?_
 exact Tm (decide (a0.N<a1)) (ij H)
 refine Z7 ?_
 exact Tm (false) (ij H)
 refine Z12 ?_
 exact Tm (false) (ij H)
 clear H;intro x2 hi;subst o2;have H:=Hr2;clear Hr2;try dsimp only at H
 try dsimp only
 refine Z3 ?_
 cases H
 refine aE [] (by decide) ?_
 exact To
 revert H;refine I6 (fun c7 H=>?_) fun c7 H=>?_
 refine Z12 ?_
 refine Z12 ?_
 cases H
 refine aE [] (by decide) ?_
 exact To
 revert H;refine I5 (fun c8 H=>?_) fun c8 H=>?_
 refine Z12 ?_
 refine Z7 ?_
 cases H
 refine aE [] (by decide) ?_
 exact To
 refine Z1 ?_
 refine Yh 0 rfl c8 (bB rfl hh (sc rfl) rfl (eS eG)) ?_
 revert H;refine I4 (fun c9 H=>?_) fun c9 H=>?_
 refine Z12 ?_
 refine Z1 ?_
 cases H
 refine aE [] (by decide) ?_
 exact To
 revert H;refine I6 (fun c10 H=>?_) fun c10 H=>?_
 refine Z7 ?_
 cases H
 refine aE [] (by decide) ?_
 exact To
 revert H;refine B4 fun o3 H Hr3=>?_
 refine aR (ι:=Bool) (fun i=>o3=i) (fun i=>[(4,aK i)]) (fun i=>[aA b1 71 [fI a0.Op,fI a0.N,cU a0.AM]]) ?_ ?_
 refine Z2 ?_
 refine Yo 0 rfl (bB rfl hh (sc rfl) rfl (eS eG)) ?_
 revert H;refine bs fun y1 h1 H=>?_
 revert H;refine B3 fun y2 h2 H=>?_
 refine Tc (ih_r03_expFormed _ _ _ h2) ?_
 refine Z1 ?_
 revert H;refine cs (fun c11 H=>?_) fun c11 H=>?_
 refine Z1 ?_
 refine Yh 0 rfl c11 (bB rfl hh (sc rfl) rfl (eS eG)) ?_
 revert H;refine bs fun y3 h3 H=>?_
 revert H;refine B3 fun y4 h4 H=>?_
 refine Tc (ih_r03_expFormed _ _ _ h4) ?_
 refine Z3 ?_
 exact Tm (y4) (ij H)
 refine Z9 ?_
 exact Tm (false) (ij H)
 clear H;intro x3 hi;subst o3;have H:=Hr3;clear Hr3;try dsimp only at H
 try dsimp only
 refine Z1 ?_
 cases H
 refine aE [] (by decide) ?_
 exact To
def yR (AA:Nat) (a0:AS) (a1:Int):Option (Bool):=
 ((lT AA (⟨a0.Op,a0.N,a0.AM⟩:AS) 60).bind fun y1=>
 if y1<=60 then
  (lW AA (⟨a0.Op,a0.N,a0.AM⟩:AS)).bind fun y2=>
  if y2<=12 then
   (sC AA (⟨a0.Op,a0.N,a0.AM⟩:AS) a1).bind fun y3=>
   some y3
  else
   some false
 else
  some false).bind fun x1=>
 some x1
theorem aJc (AA:Nat)  (a0:AS) (a1:Int) (r:Bool) (H:yR AA a0 a1=some r):FnS Tryz.prog 113 [fSt aO a0,fI a1] [] (aK r) (fun _=>[]):=by
 unfold yR at H
 refine bG Tryz.func113 rfl Tryz.ntmps113 rfl (fun β=>?_)
 refine Z1 ?_
 refine Tn (bU rfl hh bS) fun b1=>?_
 revert H;refine B2 fun o1 H Hr1=>?_
 refine aR (ι:=Bool) (fun i=>o1=i) (fun i=>[(4,aK i)]) (fun i=>[aA b1 71 [fI a0.Op,fI a0.N,cU a0.AM]]) ?_ ?_
 revert H;refine B2 fun y1 h1 H=>?_
 refine Tc (aIe _ _ _ _ h1) ?_
 revert H;refine I2 (fun c1 H=>?_) fun c1 H=>?_
 revert H;refine B1 fun y2 h2 H=>?_
 refine Tc (aLs _ _ _ h2) ?_
 revert H;refine I3 (fun c2 H=>?_) fun c2 H=>?_
 revert H;refine B2 fun y3 h3 H=>?_
 refine Tc (aKG _ _ _ _ h3) ?_
 refine Z3 ?_
 exact Tm (y3) (ij H)
 refine Z6 ?_
 exact Tm (false) (ij H)
 refine Z11 ?_
 exact Tm (false) (ij H)
 clear H;intro x1 hi;subst o1;have H:=Hr1;clear Hr1;try dsimp only at H
 try dsimp only
 refine Z1 ?_
 cases H
 refine aE [] (by decide) ?_
 exact To
def vR (a0:Int):Option (Int × Int × Bool):=
 (if a0=1 then
  some (decide (a0=1))
 else
  some (decide (a0=7))).bind fun x1=>
 bif x1 then
  some (0,0,true)
 else
  if a0=2 then
   some ((-1),0,true)
  else
   if a0=3 then
    some (0,2,true)
   else
    if a0=5 then
     some (1,2,true)
    else
     (if a0=4 then
      some (decide (a0=4))
     else
      if a0=6 then
       some (decide (a0=6))
      else
       some (decide (a0=8))).bind fun x2=>
     bif x2 then
      some (0,1,true)
     else
      some (0,0,false)
theorem aKf  (a0:Int) (r:Int × Int × Bool) (H:vR a0=some r):FnS Tryz.prog 117 [fI a0] [] (dF [fI r.1,fI r.2.1,aK r.2.2]) (fun _=>[]):=by
 unfold vR at H
 refine bG Tryz.func117 rfl Tryz.ntmps117 rfl (fun β=>?_)
 refine Z5 ?_
 refine aI ?_
 revert H;refine B4 fun o1 H Hr1=>?_
 refine aR (ι:=Bool) (fun i=>o1=i) (fun i=>[(5,fI a0),(6,aK i)]) (fun i=>[]) ?_ ?_
 revert H;refine I4 (fun c1 H=>?_) fun c1 H=>?_
 refine Z3 ?_
 exact Tm (decide (a0=1)) (ij H)
 refine Z5 ?_
 exact Tm (decide (a0=7)) (ij H)
 clear H;intro x1 hi;subst o1;have H:=Hr1;clear Hr1;try dsimp only at H
 try dsimp only
 revert H;refine cs (fun c2 H=>?_) fun c2 H=>?_
 refine Z9 ?_
 cases H
 exact wE rfl (bP rfl) (bP rfl) (bP rfl) rfl
 revert H;refine I5 (fun c3 H=>?_) fun c3 H=>?_
 refine Z9 ?_
 cases H
 exact wE rfl (bP rfl) (bP rfl) (bP rfl) rfl
 revert H;refine I5 (fun c4 H=>?_) fun c4 H=>?_
 refine Z9 ?_
 cases H
 exact wE rfl (bP rfl) (bP rfl) (bP rfl) rfl
 revert H;refine I5 (fun c5 H=>?_) fun c5 H=>?_
 refine Z9 ?_
 cases H
 exact wE rfl (bP rfl) (bP rfl) (bP rfl) rfl
 revert H;refine B1 fun o2 H Hr2=>?_
 refine aR (ι:=Bool) (fun i=>o2=i) (fun i=>[(15,aK i)]) (fun i=>[]) ?_ ?_
 revert H;refine I4 (fun c6 H=>?_) fun c6 H=>?_
 refine Z3 ?_
 exact Tm (decide (a0=4)) (ij H)
 revert H;refine I5 (fun c7 H=>?_) fun c7 H=>?_
 refine Z3 ?_
 exact Tm (decide (a0=6)) (ij H)
 refine Z5 ?_
 exact Tm (decide (a0=8)) (ij H)
 clear H;intro x2 hi;subst o2;have H:=Hr2;clear Hr2;try dsimp only at H
 try dsimp only
 revert H;refine cs (fun c8 H=>?_) fun c8 H=>?_
 refine Z9 ?_
 cases H
 exact wE rfl (bP rfl) (bP rfl) (bP rfl) rfl
 refine Z10 ?_
 cases H
 exact wE rfl (bP rfl) (bP rfl) (bP rfl) rfl
def vW (a0:AO):Option (Int):=
 (chk ((a0.AN.length:Int)+(a0.AR.length:Int))).bind fun z1=>
 some z1
theorem aIz  (a0:AO) (r:Int) (H:vW a0=some r):FnS Tryz.prog 118 [fSt aB a0] [] (fI r) (fun _=>[]):=by
 unfold vW at H
 refine bG Tryz.func118 rfl Tryz.ntmps118 rfl (fun β=>?_)
 refine Z1 ?_
 refine Tn (bU rfl hh bS) fun b1=>?_
 revert H;refine B9 fun z1 h1 H=>?_
 refine Z4 ?_
 cases H
 refine aE [] (by decide) ?_
 exact To
def qA (a0:AO) (a1:Am):Nat->Int->Int->Option (Int)
| 0,_,_=>none
| k+1,x4,x5=>
 if x5<(a1.AY.length:Int)then
  (idx a1.AY x5).bind fun y1=>
  (idx a0.AN y1).bind fun y2=>
  (chk (x4+y2.Ap)).bind fun z1=>
  (chk (x5+1)).bind fun z2=>
  qA a0 a1 k z1 z2
 else
  some x4
def yG (AA:Nat) (a0:AO) (a1:Am):Option (Int):=
 (qA a0 a1 AA 0 0).bind fun x1=>
 some x1
theorem aJx (AA:Nat)  (a0:AO) (a1:Am) (r:Int) (H:yG AA a0 a1=some r):FnS Tryz.prog 153 [fSt aB a0,fSt aY a1] [] (fI r) (fun _=>[]):=by
 unfold yG at H
 refine bG Tryz.func153 rfl Tryz.ntmps153 rfl (fun β=>?_)
 refine Z1 ?_
 refine Tn (bU rfl hh bS) fun b1=>?_
 refine Tn (bU rfl hh bS) fun b2=>?_
 revert H;refine B5 fun o1 H Hr1=>?_
 refine aR (ι:=Int) (fun i=>o1=i) (fun i=>[(5,fI i)]) (fun i=>[aA b2 81 [fI a1.At,fSl tI a1.AY,fI a1.AV],aA b1 77 [fSl aW a0.AN,fSl bD a0.AR,fSl aY a0.AP]]) ?_ ?_
 refine Z4 ?_
 refine Tl (ι:=Nat × Int × Int) (fun i=>qA a0 a1 i.1 i.2.1 i.2.2=_) (fun i=>i.1) (fun i=>[(2,fEq (ptr b1)),(3,fEq (ptr b2)),(5,fI i.2.1),(6,fI i.2.2)]) (fun i=>[aA b2 81 [fI a1.At,fSl tI a1.AY,fI a1.AV],aA b1 77 [fSl aW a0.AN,fSl bD a0.AR,fSl aY a0.AP]]) (AA,0,0) H ?_
 clear H;rintro⟨k1,x4,x5⟩ H
 replace H:qA a0 a1 k1 x4 x5=_:=H
 try dsimp only
 obtain _ | k1:=k1
 rw [qA]at H;cases H
 rw [qA]at H
 refine aI ?_
 revert H;refine I7 (fun c1 H=>?_) fun c1 H=>?_
 refine Z3 ?_
 refine aI ?_
 revert H;refine B1 fun y1 h1 H=>?_
 revert H;refine bs fun y2 h2 H=>?_
 revert H;refine bs fun z1 h3 H=>?_
 apply bL (ods:=[_,_,_,_,_,_,_,_,_,_,_,_,_]) 13 0 2 bK rfl rfl rfl
 refine ND ?_
 refine M8 ?_
 intros
 refine M5 ?_
 intros
 revert H;refine B6 fun z2 h4 H=>?_
 refine Z3 ?_
 exact Tm ((k1,z1,z2)) ⟨H,ls⟩
 exact fk
 kernel_rfl
 refine Z6 ?_
 exact Tm (x4) (ij H)
 clear H;intro x1 hi;subst o1;have H:=Hr1;clear Hr1;try dsimp only at H
 try dsimp only
 refine Z5 ?_
 cases H
 refine aE [] (by decide) ?_
 exact To
open Go.SX Go.SW Go.Dt
def jK (AA:Nat) (a2:Int) (y5:AW):Nat->Int->Bool->Option (Bool)
| 0,_,_=>none
| k+1,x4,x5=>
 if x4<(y5.AU.length:Int)then
  (bif x5 then
   some true
  else
   (idx y5.AU x4).bind fun y7=>
   (yR AA y7 a2).bind fun y8=>
   some (!y8)).bind fun x6=>
  (chk (x4+1)).bind fun z2=>
  jK AA a2 y5 k z2 x6
 else
  some x5
def jI (rec_r03_look_node:Ah->Int->Int->Option (Ah)) (y5:AW) (x7:Int):Nat->Int->(List ByteArray)->(List AW)->(List AO)->Int->(List Int)->(List Int)->(List Int)->Bool->Option (Ah)
| 0,_,_,_,_,_,_,_,_,_=>none
| k+1,x26,x27,x28,x29,x30,x31,x32,x33,x34=>
 if x26<(y5.AM.length:Int)then
  bif x34 then
   some (⟨(⟨x27,x28,x29,x30⟩:AI),x31,x32,x33,x34⟩:Ah)
  else
   (idx y5.AM x26).bind fun y16=>
   (rec_r03_look_node (⟨(⟨x27,x28,x29,x30⟩:AI),x31,x32,x33,x34⟩:Ah) y16 x7).bind fun y17=>
   (chk (x26+1)).bind fun z5=>
   jI rec_r03_look_node y5 x7 k z5 y17.p.AF y17.p.AD y17.p.AE y17.p.AG y17.Af y17.Al y17.Ak y17.bad
 else
  some (⟨(⟨x27,x28,x29,x30⟩:AI),x31,x32,x33,x34⟩:Ah)
def kR (AA:Nat) (rec_r03_look_node:Ah->Int->Int->Option (Ah)) (a1:AO) (a2:Int):Nat->Int->(List ByteArray)->(List AW)->(List AO)->Int->(List Int)->(List Int)->(List Int)->Bool->Option (List ByteArray × List AW × List AO × Int × List Int × List Int × List Int × Bool)
| 0,_,_,_,_,_,_,_,_,_=>none
| k+1,x18,x19,x20,x21,x22,x23,x24,x25,x26=>
 if x18<(a1.AP.length:Int)then
  bif x26 then
   some (x19,x20,x21,x22,x23,x24,x25,x26)
  else
   (idx a1.AP x18).bind fun y1=>
   (idx a1.AP x18).bind fun y2=>
   (yG AA (⟨a1.AN,a1.AR,a1.AP⟩:AO) y2).bind fun y3=>
   (chk (a2+y3)).bind fun z1=>
   (rec_r03_look_node (⟨(⟨x19,x20,x21,x22⟩:AI),x23,x24,x25,x26⟩:Ah) y1.AV z1).bind fun y4=>
   (chk (x18+1)).bind fun z2=>
   kR AA rec_r03_look_node a1 a2 k z2 y4.p.AF y4.p.AD y4.p.AE y4.p.AG y4.Af y4.Al y4.Ak y4.bad
 else
  some (x19,x20,x21,x22,x23,x24,x25,x26)
def kO (rec_r03_look_node:Ah->Int->Int->Option (Ah)) (a1:AO) (a2:Int):Nat->Int->(List ByteArray)->(List AW)->(List AO)->Int->(List Int)->(List Int)->(List Int)->Bool->Option (Ah)
| 0,_,_,_,_,_,_,_,_,_=>none
| k+1,x36,x37,x38,x39,x40,x41,x42,x43,x44=>
 if x36<(a1.AR.length:Int)then
  bif x44 then
   some (⟨(⟨x37,x38,x39,x40⟩:AI),x41,x42,x43,x44⟩:Ah)
  else
   (idx a1.AR x36).bind fun y5=>
   (rec_r03_look_node (⟨(⟨x37,x38,x39,x40⟩:AI),x41,x42,x43,x44⟩:Ah) y5.AV a2).bind fun y6=>
   (chk (x36+1)).bind fun z3=>
   kO rec_r03_look_node a1 a2 k z3 y6.p.AF y6.p.AD y6.p.AE y6.p.AG y6.Af y6.Al y6.Ak y6.bad
 else
  some (⟨(⟨x37,x38,x39,x40⟩:AI),x41,x42,x43,x44⟩:Ah)
mutual
def eV:Nat->Ah->Int->Int->Option (Ah)
| 0,_,_,_=>none
| AA+1,a0,a1,a2=>
 if a1<0 then
  some (⟨(⟨a0.p.AF,a0.p.AD,a0.p.AE,a0.p.AG⟩:AI),a0.Af,a0.Al,a0.Ak,true⟩:Ah)
 else
  if (a0.p.AD.length:Int)<=a1 then
   some (⟨(⟨a0.p.AF,a0.p.AD,a0.p.AE,a0.p.AG⟩:AI),a0.Af,a0.Al,a0.Ak,true⟩:Ah)
  else
   (idx a0.Al a1).bind fun y1=>
   if 0<y1 then
    some (⟨(⟨a0.p.AF,a0.p.AD,a0.p.AE,a0.p.AG⟩:AI),a0.Af,a0.Al,a0.Ak,true⟩:Ah)
   else
    (idx a0.Al a1).bind fun y2=>
    (chk (y2+1)).bind fun z1=>
    (idx a0.Al a1).bind fun y3=>
    (idx a0.Af a1).bind fun y4=>
    (idx a0.p.AD a1).bind fun y5=>
    (vR y5.Op).bind fun y6=>
    (bif !y6.2.2 then
     (some (⟨(⟨a0.p.AF,a0.p.AD,a0.p.AE,a0.p.AG⟩:AI),a0.Af.set a1.toNat a2,a0.Al.set a1.toNat z1,a0.Ak,true⟩:Ah)).bind fun r=>some (Sum.inr r)
    else
     if (y5.AM.length:Int)≠y6.2.1 then
      (some (⟨(⟨a0.p.AF,a0.p.AD,a0.p.AE,a0.p.AG⟩:AI),a0.Af.set a1.toNat a2,a0.Al.set a1.toNat z1,a0.Ak,true⟩:Ah)).bind fun r=>some (Sum.inr r)
     else
      if y6.1<0 then
       if 3<(y5.AU.length:Int)then
        (some (⟨(⟨a0.p.AF,a0.p.AD,a0.p.AE,a0.p.AG⟩:AI),a0.Af.set a1.toNat a2,a0.Al.set a1.toNat z1,a0.Ak,true⟩:Ah)).bind fun r=>some (Sum.inr r)
       else
        if 0<=y6.1 then
         if (y5.AU.length:Int)≠y6.1 then
          (some (⟨(⟨a0.p.AF,a0.p.AD,a0.p.AE,a0.p.AG⟩:AI),a0.Af.set a1.toNat a2,a0.Al.set a1.toNat z1,a0.Ak,true⟩:Ah)).bind fun r=>some (Sum.inr r)
         else
          some (Sum.inl ())
        else
         some (Sum.inl ())
      else
       if 0<=y6.1 then
        if (y5.AU.length:Int)≠y6.1 then
         (some (⟨(⟨a0.p.AF,a0.p.AD,a0.p.AE,a0.p.AG⟩:AI),a0.Af.set a1.toNat a2,a0.Al.set a1.toNat z1,a0.Ak,true⟩:Ah)).bind fun r=>some (Sum.inr r)
        else
         some (Sum.inl ())
       else
        some (Sum.inl ())).bind fun o=>match o with
    | Sum.inr r=>some r
    | Sum.inl _=>
    (jK AA a2 y5 AA 0 a0.bad).bind fun x1=>
    ((if y5.Op=2 then
     some (decide (y5.Op=2))
    else
     if y5.Op=6 then
      some (decide (y5.Op=6))
     else
      some (decide (y5.Op=8))).bind fun x16=>
    bif x16 then
     bif x1 then
      some (Sum.inl (a2,a0.p.AF,a0.p.AD,a0.p.AE,a0.p.AG,a0.Af.set a1.toNat a2,a0.Al.set a1.toNat z1,a0.Ak,true))
     else
      if y5.N<0 then
       some (Sum.inl (a2,a0.p.AF,a0.p.AD,a0.p.AE,a0.p.AG,a0.Af.set a1.toNat a2,a0.Al.set a1.toNat z1,a0.Ak,true))
      else
       some (Sum.inl (a2,a0.p.AF,a0.p.AD,a0.p.AE,a0.p.AG,a0.Af.set a1.toNat a2,a0.Al.set a1.toNat z1,a0.Ak,decide (a2<=y5.N)))
    else
     if y5.Op=4 then
      if y5.N<0 then
       (some (⟨(⟨a0.p.AF,a0.p.AD,a0.p.AE,a0.p.AG⟩:AI),a0.Af.set a1.toNat a2,a0.Al.set a1.toNat z1,a0.Ak,true⟩:Ah)).bind fun r=>some (Sum.inr r)
      else
       if (a0.p.AE.length:Int)<=y5.N then
        (some (⟨(⟨a0.p.AF,a0.p.AD,a0.p.AE,a0.p.AG⟩:AI),a0.Af.set a1.toNat a2,a0.Al.set a1.toNat z1,a0.Ak,true⟩:Ah)).bind fun r=>some (Sum.inr r)
       else
        (idx a0.Ak y5.N).bind fun y9=>
        if 0<y9 then
         (some (⟨(⟨a0.p.AF,a0.p.AD,a0.p.AE,a0.p.AG⟩:AI),a0.Af.set a1.toNat a2,a0.Al.set a1.toNat z1,a0.Ak,true⟩:Ah)).bind fun r=>some (Sum.inr r)
        else
         (idx a0.Ak y5.N).bind fun y10=>
         (chk (y10+1)).bind fun z3=>
         (idx a0.Ak y5.N).bind fun y11=>
         (idx a0.p.AE y5.N).bind fun y12=>
         (vW y12).bind fun y13=>
         (chk (a2+y13)).bind fun z4=>
         (idx a0.p.AE y5.N).bind fun y14=>
         ((nO AA) (⟨(⟨a0.p.AF,a0.p.AD,a0.p.AE,a0.p.AG⟩:AI),a0.Af.set a1.toNat a2,a0.Al.set a1.toNat z1,a0.Ak.set y5.N.toNat z3,x1⟩:Ah) y14 z4).bind fun y15=>
         some (Sum.inl (z4,y15.p.AF,y15.p.AD,y15.p.AE,y15.p.AG,y15.Af,y15.Al,y15.Ak,y15.bad))
     else
      bif x1 then
       some (Sum.inl (a2,a0.p.AF,a0.p.AD,a0.p.AE,a0.p.AG,a0.Af.set a1.toNat a2,a0.Al.set a1.toNat z1,a0.Ak,true))
      else
       some (Sum.inl (a2,a0.p.AF,a0.p.AD,a0.p.AE,a0.p.AG,a0.Af.set a1.toNat a2,a0.Al.set a1.toNat z1,a0.Ak,decide (y5.N≠0)))).bind fun o=>match o with
    | Sum.inr r=>some r
    | Sum.inl (x7,x8,x9,x10,x11,x12,x13,x14,x15)=>
    jI (eV AA) y5 x7 AA 0 x8 x9 x10 x11 x12 x13 x14 x15
def nO:Nat->Ah->AO->Int->Option (Ah)
| 0,_,_,_=>none
| AA+1,a0,a1,a2=>
 (kR AA (eV AA) a1 a2 AA 0 a0.p.AF a0.p.AD a0.p.AE a0.p.AG a0.Af a0.Al a0.Ak a0.bad).bind fun (x1,x2,x3,x4,x5,x6,x7,x8)=>
 kO (eV AA) a1 a2 AA 0 x1 x2 x3 x4 x5 x6 x7 x8
end
theorem aLd:∀ (AA:Nat),(∀ (p0:Nat) (a0:Ah) (a1:Int) (a2:Int) (r:Ah) (H:eV AA a0 a1 a2=some r),FnS Tryz.prog 84 [fEq (.pointer (some ⟨p0,0,none⟩)),fI a1,fI a2] [qU p0 a0] (dF []) (fun _=>[qU p0 r]))/\(∀ (p0:Nat) (a0:Ah) (a1:AO) (a2:Int) (r:Ah) (H:nO AA a0 a1 a2=some r),FnS Tryz.prog 119 [fEq (.pointer (some ⟨p0,0,none⟩)),fSt aB a1,fI a2] [qU p0 a0] (dF []) (fun _=>[qU p0 r])):=by
 intro AA
 induction AA with
 | zero=>exact⟨fun p0 a0 a1 a2 r H=>(by rw [eV]at H;cases H),fun p0 a0 a1 a2 r H=>(by rw [nO]at H;cases H)⟩
 | succ AA ih=>
 obtain⟨ih_r03_look_node,ih_r03_look_def⟩:=@ih
 refine⟨?_,?_⟩
 intro p0 a0 a1 a2 r H
 rw [eV]at H
 refine bG Tryz.func84 rfl Tryz.ntmps84 rfl (fun β=>?_)
 refine tZ (fun v1 v2 v3=>?_)
 refine aJ 1 rfl (fun hc_v1=>?_)
 refine aJ 2 rfl (fun hc_v2=>?_)
 refine aJ 3 rfl (fun hc_v3=>?_)
 refine aI ?_
 revert H;refine I4 (fun c1 H=>?_) fun c1 H=>?_
 refine Yt c1 ?_
 refine Yt c1 ?_
 refine Yt c1 ?_
 refine Yt c1 ?_
 refine Yt c1 ?_
 refine Yt c1 ?_
 refine Yt c1 ?_
 refine Yt c1 ?_
 refine Yy (cZ rfl hh c1 hh) ?_
 refine Z12 ?_
 refine Z4 ?_
 refine cC (φs':=[fSl aD a0.p.AF,fSl aM a0.p.AD,fSl aB a0.p.AE,fI a0.p.AG,fEq v1,fEq v2,fEq v3,aK true]) a2g rfl rfl (has rfl) (has rfl) (aH a2g) (sz rfl) rfl rfl ?_
 refine Z2 ?_
 refine fZ (x:=(⟨(⟨a0.p.AF,a0.p.AD,a0.p.AE,a0.p.AG⟩:AI),a0.Af,a0.Al,a0.Ak,true⟩:Ah)) ?_
 cases H
 exact eP (.inl rfl) rfl rfl
 refine Yg c1 (cF rfl hh) ?_
 refine Yg c1 (cF rfl hh) ?_
 refine Yg c1 (kC rfl (has rfl) (fun m v h=>⟨_,h⟩)) ?_
 refine Yg c1 (bV 0 rfl hh (fa rfl) rfl) ?_
 refine Yg c1 (bV 1 rfl hh (fa rfl) rfl) ?_
 refine Yh 0 rfl c1 (bB rfl hh (sc rfl) rfl Ent.rfl) ?_
 refine Yg c1 (fC rfl hh (us rfl)) ?_
 refine Yg c1 (sI rfl hh hh) ?_
 refine Yy (cL rfl hh c1 hh) ?_
 revert H;refine I1 (fun c2 H=>?_) fun c2 H=>?_
 refine Yt c2 ?_
 refine Yt c2 ?_
 refine Yt c2 ?_
 refine Yt c2 ?_
 refine Yt c2 ?_
 refine Yt c2 ?_
 refine Yt c2 ?_
 refine Yt c2 ?_
 refine Yy (cZ rfl hh c2 hh) ?_
 refine Z6 ?_
 refine cC (φs':=[fSl aD a0.p.AF,fSl aM a0.p.AD,fSl aB a0.p.AE,fI a0.p.AG,fEq v1,fEq v2,fEq v3,aK true]) a2g rfl rfl (has rfl) (has rfl) (aH a2g) (sz rfl) rfl rfl ?_
 refine Z2 ?_
 refine fZ (x:=(⟨(⟨a0.p.AF,a0.p.AD,a0.p.AE,a0.p.AG⟩:AI),a0.Af,a0.Al,a0.Ak,true⟩:Ah)) ?_
 cases H
 exact eP (.inl rfl) rfl rfl
 refine Yg c2 (cF rfl hh) ?_
 refine Yg c2 (kC rfl (has rfl) (fun m v h=>⟨_,h⟩)) ?_
 refine Yg c2 (bV 5 rfl hh (fa rfl) rfl) ?_
 refine Yh 0 rfl c2 (bB rfl hh (sc rfl) rfl Ent.rfl) ?_
 refine Yg c2 (cF rfl hh) ?_
 revert H;refine bs fun y1 h1 H=>?_
 refine Yh 2 rfl c2 (jR rfl hh hh (el rfl) h1) ?_
 refine Yh 2 rfl c2 (kI rfl rfl hh (sc rfl) (eF h1) rfl) ?_
 refine Yg c2 (gV rfl hh hh) ?_
 refine Yy (cL rfl hh c2 hh) ?_
 revert H;refine I1 (fun c3 H=>?_) fun c3 H=>?_
 refine dD hh c3 ?_
 refine Z4 ?_
 refine cC (φs':=[fSl aD a0.p.AF,fSl aM a0.p.AD,fSl aB a0.p.AE,fI a0.p.AG,fEq v1,fEq v2,fEq v3,aK true]) a2g rfl rfl (has rfl) (has rfl) (aH a2g) (sz rfl) rfl rfl ?_
 refine Z2 ?_
 refine fZ (x:=(⟨(⟨a0.p.AF,a0.p.AD,a0.p.AE,a0.p.AG⟩:AI),a0.Af,a0.Al,a0.Ak,true⟩:Ah)) ?_
 cases H
 exact eP (.inl rfl) rfl rfl
 refine dB hh c3 ?_
 revert H;refine B8 fun y2 h2 H=>?_
 refine Yo 2 rfl (jR rfl hh hh (el rfl) h2) ?_
 refine Yo 2 rfl (kI rfl rfl hh (sc rfl) (eF h2) rfl) ?_
 revert H;refine bs fun z1 h3 H=>?_
 refine Yy (fP rfl hh hh h3) ?_
 revert H;refine bs fun y3 h4 H=>?_
 refine Yo 2 rfl (jR rfl hh hh (el rfl) h4) ?_
 refine dK ?_
 refine aDQ (z':=z1) a2g rfl rfl rfl (has rfl) (has rfl) (aH a2g) (sz rfl) (eF h4) rfl rfl ?_
 revert H;refine B8 fun y4 h5 H=>?_
 refine Yo 2 rfl (jR rfl hh hh (el rfl) h5) ?_
 refine dK ?_
 refine aDQ (z':=a2) a2g rfl rfl rfl (has rfl) (has rfl) (aH a2g) (sz rfl) (eF h5) rfl rfl ?_
 revert H;refine B8 fun y5 h6 H=>?_
 refine Yy (cT rfl hh hh (el rfl) h6) ?_
 refine Z1 ?_
 refine Tn (bN rfl rP rfl) fun b1=>?_
 refine cG (φs':=[fI y5.Op,fI y5.N,fSl aO y5.AU,fSl tI y5.AM]) a2g rfl rfl (has rfl) (has rfl) (aF (aH a2g) (aF (aH a2g) (aF (aS) (aF (aS) bF)))) (sz rfl) rfl rfl rfl ?_
 revert H;refine B4 fun y6 h7 H=>?_
 refine Tc (aKf _ _ h7) ?_
 revert H;refine B8 fun o1 H Hr1=>?_
 refine aR (ι:=Unit) (fun i=>o1=Sum.inl ()) (fun i=>[(0,fEq (ptr p0)),(2,fI a2),(6,fEq (ptr b1))]) (fun i=>[aA b1 65 [fI y5.Op,fI y5.N,fSl aO y5.AU,fSl tI y5.AM],aA p0 122 [fSl aD a0.p.AF,fSl aM a0.p.AD,fSl aB a0.p.AE,fI a0.p.AG,fEq v1,fEq v2,fEq v3,aK a0.bad],aC v1 3 tI (a0.Af.set a1.toNat a2),aC v2 3 tI (a0.Al.set a1.toNat z1),aC v3 3 tI a0.Ak]) ?_ ?_
 refine Z4 ?_
 revert H;refine cs (fun c4 H=>?_) fun c4 H=>?_
 refine Yt c4 ?_
 refine Yt c4 ?_
 refine Yt c4 ?_
 refine Yt c4 ?_
 refine Yt c4 ?_
 refine Yy (cZ rfl hh c4 hh) ?_
 refine Z4 ?_
 refine cR (⟨_,_,_,_,rfl,rfl,rfl,nu⟩) rfl rfl ?_
 refine cR (⟨_,_,_,_,rfl,rfl,rfl,nu⟩) rfl rfl ?_
 refine cR (⟨_,_,_,_,rfl,rfl,rfl,nu⟩) rfl rfl ?_
 refine cR (⟨_,_,_,_,rfl,rfl,rfl,nu⟩) rfl rfl ?_
 refine Z6 ?_
 refine cR (⟨_,_,_,_,rfl,rfl,rfl,nu⟩) rfl rfl ?_
 refine cR (⟨_,_,_,_,rfl,rfl,rfl,nu⟩) rfl rfl ?_
 refine cR (⟨_,_,_,_,rfl,rfl,rfl,nu⟩) rfl rfl ?_
 refine cR (⟨_,_,_,_,rfl,rfl,rfl,nu⟩) rfl rfl ?_
 refine cR (⟨_,_,_,_,rfl,rfl,rfl,nu⟩) rfl rfl ?_
 refine Z8 ?_
 refine cY ?_
 refine cC (φs':=[fSl aD a0.p.AF,fSl aM a0.p.AD,fSl aB a0.p.AE,fI a0.p.AG,fEq v1,fEq v2,fEq v3,aK true]) a2g rfl rfl (has rfl) (has rfl) (aH a2g) (sz rfl) rfl rfl ?_
 revert H;refine B2 fun r1 H e1=>?_
 cases e1;cases Hr1
 refine aZ ?_
 refine aZ ?_
 refine aZ ?_
 refine cY ?_
 refine fZ (x:=(⟨(⟨a0.p.AF,a0.p.AD,a0.p.AE,a0.p.AG⟩:AI),a0.Af.set a1.toNat a2,a0.Al.set a1.toNat z1,a0.Ak,true⟩:Ah)) ?_
 cases H
 refine aE [0] (by decide) ?_
 exact eP (.inl rfl) rfl rfl
 refine Yg c4 (bV 3 rfl hh (fa rfl) rfl) ?_
 refine Yh 0 rfl c4 (bB rfl hh (sc rfl) rfl Ent.rfl) ?_
 refine Yg c4 (fC rfl hh (us rfl)) ?_
 refine Yg c4 (cF rfl hh) ?_
 refine Yg c4 (mK rfl hh hh) ?_
 refine Yy (cL rfl hh c4 hh) ?_
 revert H;refine I1 (fun c5 H=>?_) fun c5 H=>?_
 refine Yt c5 ?_
 refine Yt c5 ?_
 refine Yt c5 ?_
 refine cR (⟨_,_,_,_,rfl,rfl,rfl,nu⟩) rfl rfl ?_
 refine cR (⟨_,_,_,_,rfl,rfl,rfl,nu⟩) rfl rfl ?_
 refine cR (⟨_,_,_,_,rfl,rfl,rfl,nu⟩) rfl rfl ?_
 refine cR (⟨_,_,_,_,rfl,rfl,rfl,nu⟩) rfl rfl ?_
 refine Yt c5 ?_
 refine Yy (cZ rfl hh c5 hh) ?_
 refine Z4 ?_
 refine cR (⟨_,_,_,_,rfl,rfl,rfl,nu⟩) rfl rfl ?_
 refine cR (⟨_,_,_,_,rfl,rfl,rfl,nu⟩) rfl rfl ?_
 refine cR (⟨_,_,_,_,rfl,rfl,rfl,nu⟩) rfl rfl ?_
 refine cR (⟨_,_,_,_,rfl,rfl,rfl,nu⟩) rfl rfl ?_
 refine cR (⟨_,_,_,_,rfl,rfl,rfl,nu⟩) rfl rfl ?_
 refine Z8 ?_
 refine cY ?_
 refine cC (φs':=[fSl aD a0.p.AF,fSl aM a0.p.AD,fSl aB a0.p.AE,fI a0.p.AG,fEq v1,fEq v2,fEq v3,aK true]) a2g rfl rfl (has rfl) (has rfl) (aH a2g) (sz rfl) rfl rfl ?_
 revert H;refine B2 fun r2 H e2=>?_
 cases e2;cases Hr1
 refine aZ ?_
 refine aZ ?_
 refine aZ ?_
 refine cY ?_
 refine fZ (x:=(⟨(⟨a0.p.AF,a0.p.AD,a0.p.AE,a0.p.AG⟩:AI),a0.Af.set a1.toNat a2,a0.Al.set a1.toNat z1,a0.Ak,true⟩:Ah)) ?_
 cases H
 refine aE [0] (by decide) ?_
 exact eP (.inl rfl) rfl rfl
 refine Yg c5 (cF rfl hh) ?_
 refine Yg c5 (xA rfl hh hh) ?_
 refine Yg c5 (cF rfl hh) ?_
 revert H;refine is (fun c6 H=>?_) fun c6 H=>?_
 refine Yg c6 (bV 2 rfl hh (fa rfl) rfl) ?_
 refine Yh 0 rfl c6 (bB rfl hh (sc rfl) rfl Ent.rfl) ?_
 refine Yg c6 (fC rfl hh (us rfl)) ?_
 refine Yg c6 (gV rfl hh hh) ?_
 refine Yg c5 (cZ rfl hh c6 hh) ?_
 refine Yy (cL rfl hh c5 hh) ?_
 revert H;refine I1 (fun c7 H=>?_) fun c7 H=>?_
 refine Yt c7 ?_
 refine Yt c7 ?_
 refine Yt c7 ?_
 refine cR (⟨_,_,_,_,rfl,rfl,rfl,nu⟩) rfl rfl ?_
 refine cR (⟨_,_,_,_,rfl,rfl,rfl,nu⟩) rfl rfl ?_
 refine cR (⟨_,_,_,_,rfl,rfl,rfl,nu⟩) rfl rfl ?_
 refine cR (⟨_,_,_,_,rfl,rfl,rfl,nu⟩) rfl rfl ?_
 refine cR (⟨_,_,_,_,rfl,rfl,rfl,nu⟩) rfl rfl ?_
 refine Yt c7 ?_
 refine Yy (cZ rfl hh c7 hh) ?_
 refine Z6 ?_
 refine cY ?_
 refine cC (φs':=[fSl aD a0.p.AF,fSl aM a0.p.AD,fSl aB a0.p.AE,fI a0.p.AG,fEq v1,fEq v2,fEq v3,aK true]) a2g rfl rfl (has rfl) (has rfl) (aH a2g) (sz rfl) rfl rfl ?_
 revert H;refine B2 fun r3 H e3=>?_
 cases e3;cases Hr1
 refine aZ ?_
 refine aZ ?_
 refine aZ ?_
 refine cY ?_
 refine fZ (x:=(⟨(⟨a0.p.AF,a0.p.AD,a0.p.AE,a0.p.AG⟩:AI),a0.Af.set a1.toNat a2,a0.Al.set a1.toNat z1,a0.Ak,true⟩:Ah)) ?_
 cases H
 refine aE [0] (by decide) ?_
 exact eP (.inl rfl) rfl rfl
 refine Yg c7 (cF rfl hh) ?_
 refine Yg c7 (sI rfl hh hh) ?_
 refine Yg c7 (cF rfl hh) ?_
 revert H;refine is (fun c8 H=>?_) fun c8 H=>?_
 refine Yg c8 (bV 2 rfl hh (fa rfl) rfl) ?_
 refine Yh 0 rfl c8 (bB rfl hh (sc rfl) rfl Ent.rfl) ?_
 refine Yg c8 (fC rfl hh (us rfl)) ?_
 refine Yg c8 (cF rfl hh) ?_
 refine Yg c8 (mK rfl hh hh) ?_
 refine Yg c7 (cZ rfl hh c8 hh) ?_
 refine Yy (cL rfl hh c7 hh) ?_
 revert H;refine I1 (fun c9 H=>?_) fun c9 H=>?_
 refine dD hh c9 ?_
 refine Z4 ?_
 refine cY ?_
 refine cC (φs':=[fSl aD a0.p.AF,fSl aM a0.p.AD,fSl aB a0.p.AE,fI a0.p.AG,fEq v1,fEq v2,fEq v3,aK true]) a2g rfl rfl (has rfl) (has rfl) (aH a2g) (sz rfl) rfl rfl ?_
 revert H;refine B2 fun r4 H e4=>?_
 cases e4;cases Hr1
 refine aZ ?_
 refine aZ ?_
 refine aZ ?_
 refine cY ?_
 refine fZ (x:=(⟨(⟨a0.p.AF,a0.p.AD,a0.p.AE,a0.p.AG⟩:AI),a0.Af.set a1.toNat a2,a0.Al.set a1.toNat z1,a0.Ak,true⟩:Ah)) ?_
 cases H
 refine aE [0] (by decide) ?_
 exact eP (.inl rfl) rfl rfl
 refine dB hh c9 ?_
 refine Z2 ?_
 refine aE [0,3,1,2,4] (by decide) ?_
 exact Tm (()) (ij H)
 refine Yf c8 ?_
 refine Yf c8 ?_
 refine Yf c8 ?_
 refine Yf c8 ?_
 refine Yf c8 ?_
 refine Yg c7 (cL rfl hh c8 hh) ?_
 refine Yy (cL rfl hh c7 hh) ?_
 refine Z4 ?_
 refine aE [0,3,1,2,4] (by decide) ?_
 exact Tm (()) (ij H)
 refine Yf c6 ?_
 refine Yf c6 ?_
 refine Yf c6 ?_
 refine Yf c6 ?_
 refine Yg c5 (cL rfl hh c6 hh) ?_
 refine Yy (cL rfl hh c5 hh) ?_
 revert H;refine I4 (fun c10 H=>?_) fun c10 H=>?_
 refine Yg c10 (bV 2 rfl hh (fa rfl) rfl) ?_
 refine Yh 0 rfl c10 (bB rfl hh (sc rfl) rfl Ent.rfl) ?_
 refine Yg c10 (fC rfl hh (us rfl)) ?_
 refine Yg c10 (cF rfl hh) ?_
 refine Yg c10 (mK rfl hh hh) ?_
 refine Yg rfl (cZ rfl hh c10 hh) ?_
 revert H;refine I2 (fun c11 H=>?_) fun c11 H=>?_
 refine dD hh c11 ?_
 refine Z4 ?_
 refine cY ?_
 refine cC (φs':=[fSl aD a0.p.AF,fSl aM a0.p.AD,fSl aB a0.p.AE,fI a0.p.AG,fEq v1,fEq v2,fEq v3,aK true]) a2g rfl rfl (has rfl) (has rfl) (aH a2g) (sz rfl) rfl rfl ?_
 revert H;refine B2 fun r5 H e5=>?_
 cases e5;cases Hr1
 refine aZ ?_
 refine aZ ?_
 refine aZ ?_
 refine cY ?_
 refine fZ (x:=(⟨(⟨a0.p.AF,a0.p.AD,a0.p.AE,a0.p.AG⟩:AI),a0.Af.set a1.toNat a2,a0.Al.set a1.toNat z1,a0.Ak,true⟩:Ah)) ?_
 cases H
 refine aE [0] (by decide) ?_
 exact eP (.inl rfl) rfl rfl
 refine dB hh c11 ?_
 refine Z2 ?_
 refine aE [0,3,1,2,4] (by decide) ?_
 exact Tm (()) (ij H)
 refine Yf c10 ?_
 refine Yf c10 ?_
 refine Yf c10 ?_
 refine Yf c10 ?_
 refine Yf c10 ?_
 refine Yg rfl (cL rfl hh c10 hh) ?_
 refine Z5 ?_
 refine aE [0,3,1,2,4] (by decide) ?_
 exact Tm (()) (ij H)
 clear H;intro i hi;subst o1;have H:=Hr1;clear Hr1;try dsimp only at H
 try dsimp only
 revert H;refine bs fun o2 H Hr2=>?_
 refine aR (ι:=Bool) (fun i=>o2=i) (fun i=>[(0,fEq (ptr p0)),(2,fI a2),(6,fEq (ptr b1))]) (fun i=>[aA b1 65 [fI y5.Op,fI y5.N,fSl aO y5.AU,fSl tI y5.AM],aA p0 122 [fSl aD a0.p.AF,fSl aM a0.p.AD,fSl aB a0.p.AE,fI a0.p.AG,fEq v1,fEq v2,fEq v3,aK i],aC v1 3 tI (a0.Af.set a1.toNat a2),aC v2 3 tI (a0.Al.set a1.toNat z1),aC v3 3 tI a0.Ak]) ?_ ?_
 refine Z4 ?_
 refine Tl (ι:=Nat × Int × Bool) (fun i=>jK AA a2 y5 i.1 i.2.1 i.2.2=_) (fun i=>i.1) (fun i=>[(0,fEq (ptr p0)),(2,fI a2),(6,fEq (ptr b1)),(10,fI i.2.1)]) (fun i=>[aA b1 65 [fI y5.Op,fI y5.N,fSl aO y5.AU,fSl tI y5.AM],aA p0 122 [fSl aD a0.p.AF,fSl aM a0.p.AD,fSl aB a0.p.AE,fI a0.p.AG,fEq v1,fEq v2,fEq v3,aK i.2.2],aC v1 3 tI (a0.Af.set a1.toNat a2),aC v2 3 tI (a0.Al.set a1.toNat z1),aC v3 3 tI a0.Ak]) (AA,0,a0.bad) H ?_
 clear H;rintro⟨k1,x4,x5⟩ H
 replace H:jK AA a2 y5 k1 x4 x5=_:=H
 try dsimp only
 obtain _ | k1:=k1
 rw [jK]at H;cases H
 rw [jK]at H
 refine aI ?_
 revert H;refine I7 (fun c12 H=>?_) fun c12 H=>?_
 refine dD hh c12 ?_
 revert H;refine B2 fun o3 H Hr3=>?_
 refine aR (ι:=Bool) (fun i=>o3=i) (fun i=>[(0,fEq (ptr p0)),(2,fI a2),(6,fEq (ptr b1)),(10,fI x4)]) (fun i=>[aA p0 122 [fSl aD a0.p.AF,fSl aM a0.p.AD,fSl aB a0.p.AE,fI a0.p.AG,fEq v1,fEq v2,fEq v3,aK i],aA b1 65 [fI y5.Op,fI y5.N,fSl aO y5.AU,fSl tI y5.AM],aC v1 3 tI (a0.Af.set a1.toNat a2),aC v2 3 tI (a0.Al.set a1.toNat z1),aC v3 3 tI a0.Ak]) ?_ ?_
 refine Z8 ?_
 revert H;refine cs (fun c13 H=>?_) fun c13 H=>?_
 refine Yt c13 ?_
 refine Yt c13 ?_
 refine Yt c13 ?_
 refine Yt c13 ?_
 refine Yt c13 ?_
 refine Yt c13 ?_
 refine Yt c13 ?_
 refine Yt c13 ?_
 refine Yy (cZ rfl hh c13 hh) ?_
 refine Z2 ?_
 refine cK ?_
 refine cC (φs':=[fSl aD a0.p.AF,fSl aM a0.p.AD,fSl aB a0.p.AE,fI a0.p.AG,fEq v1,fEq v2,fEq v3,aK true]) a2g rfl rfl (has rfl) (has rfl) (aH a2g) (sz rfl) rfl rfl ?_
 refine Z3 ?_
 exact Tm (true) (ij H)
 refine Yg c13 (bV 2 rfl hh (fa rfl) rfl) ?_
 refine Yh 0 rfl c13 (bB rfl hh (sc rfl) rfl Ent.rfl) ?_
 refine Yg c13 (cF rfl hh) ?_
 revert H;refine bs fun y7 h8 H=>?_
 refine Yg c13 (cT rfl hh hh (el rfl) h8) ?_
 refine Yg c13 (aCi rfl hh (ag rfl)) ?_
 refine Yg c13 (cF rfl hh) ?_
 revert H;refine bs fun y8 h9 H=>?_
 refine Tc (aJc _ _ _ _ h9) ?_
 refine Yg c13 (mV rfl hh) ?_
 refine Yy (cL rfl hh c13 hh) ?_
 refine Z2 ?_
 refine cK ?_
 refine cC (φs':=[fSl aD a0.p.AF,fSl aM a0.p.AD,fSl aB a0.p.AE,fI a0.p.AG,fEq v1,fEq v2,fEq v3,aK (!y8)]) a2g rfl rfl (has rfl) (has rfl) (aH a2g) (sz rfl) rfl rfl ?_
 refine Z3 ?_
 exact Tm (!y8) (ij H)
 clear H;intro x6 hi;subst o3;have H:=Hr3;clear Hr3;try dsimp only at H
 try dsimp only
 revert H;refine B2 fun z2 h10 H=>?_
 refine Yy (fP rfl hh hh h10) ?_
 refine Z2 ?_
 refine aE [1,0,2,3,4] (by decide) ?_
 exact Tm ((k1,z2,x6)) ⟨H,ls⟩
 refine dB hh c12 ?_
 refine Z5 ?_
 exact Tm (x5) (ij H)
 clear H;intro x1 hi;subst o2;have H:=Hr2;clear Hr2;try dsimp only at H
 try dsimp only
 revert H;refine B4 fun o4 H Hr4=>?_
 refine aR (ι:=Int × List ByteArray × List AW × List AO × Int × List Int × List Int × List Int × Bool × Value × Value × Value) (fun i=>o4=Sum.inl (i.1,i.2.1,i.2.2.1,i.2.2.2.1,i.2.2.2.2.1,i.2.2.2.2.2.1,i.2.2.2.2.2.2.1,i.2.2.2.2.2.2.2.1,i.2.2.2.2.2.2.2.2.1)) (fun i=>[(0,fEq (ptr p0)),(6,fEq (ptr b1)),(11,fI i.1)]) (fun i=>[aA p0 122 [fSl aD i.2.1,fSl aM i.2.2.1,fSl aB i.2.2.2.1,fI i.2.2.2.2.1,fEq i.2.2.2.2.2.2.2.2.2.1,fEq i.2.2.2.2.2.2.2.2.2.2.1,fEq i.2.2.2.2.2.2.2.2.2.2.2,aK i.2.2.2.2.2.2.2.2.1],aA b1 65 [fI y5.Op,fI y5.N,fSl aO y5.AU,fSl tI y5.AM],aC i.2.2.2.2.2.2.2.2.2.1 3 tI i.2.2.2.2.2.1,aC i.2.2.2.2.2.2.2.2.2.2.1 3 tI i.2.2.2.2.2.2.1,aC i.2.2.2.2.2.2.2.2.2.2.2 3 tI i.2.2.2.2.2.2.2.1]) ?_ ?_
 revert H;refine B5 fun o5 H Hr5=>?_
 refine aR (ι:=Bool) (fun i=>o5=i) (fun i=>[(0,fEq (ptr p0)),(2,fI a2),(6,fEq (ptr b1)),(11,fI a2),(128,fI y5.Op),(141,aK i)]) (fun i=>[aA b1 65 [fI y5.Op,fI y5.N,fSl aO y5.AU,fSl tI y5.AM],aA p0 122 [fSl aD a0.p.AF,fSl aM a0.p.AD,fSl aB a0.p.AE,fI a0.p.AG,fEq v1,fEq v2,fEq v3,aK x1],aC v1 3 tI (a0.Af.set a1.toNat a2),aC v2 3 tI (a0.Al.set a1.toNat z1),aC v3 3 tI a0.Ak]) ?_ ?_
 revert H;refine I4 (fun c14 H=>?_) fun c14 H=>?_
 refine dD hh c14 ?_
 refine Z2 ?_
 exact Tm (decide (y5.Op=2)) (ij H)
 refine dB hh c14 ?_
 revert H;refine I4 (fun c15 H=>?_) fun c15 H=>?_
 refine dD hh c15 ?_
 refine Z2 ?_
 exact Tm (decide (y5.Op=6)) (ij H)
 refine dB hh c15 ?_
 refine Z4 ?_
 exact Tm (decide (y5.Op=8)) (ij H)
 clear H;intro x16 hi;subst o5;have H:=Hr5;clear Hr5;try dsimp only at H
 try dsimp only
 revert H;refine cs (fun c16 H=>?_) fun c16 H=>?_
 refine dD hh c16 ?_
 refine Z7 ?_
 revert H;refine cs (fun c17 H=>?_) fun c17 H=>?_
 refine Yt c17 ?_
 refine Yt c17 ?_
 refine Yt c17 ?_
 refine Yy (cZ rfl hh c17 hh) ?_
 refine Z8 ?_
 refine cK ?_
 refine cC (φs':=[fSl aD a0.p.AF,fSl aM a0.p.AD,fSl aB a0.p.AE,fI a0.p.AG,fEq v1,fEq v2,fEq v3,aK true]) a2g rfl rfl (has rfl) (has rfl) (aH a2g) (sz rfl) rfl rfl ?_
 refine Z3 ?_
 exact Tm ((a2,a0.p.AF,a0.p.AD,a0.p.AE,a0.p.AG,a0.Af.set a1.toNat a2,a0.Al.set a1.toNat z1,a0.Ak,true,v1,v2,v3)) (ij H)
 refine Yg c17 (bV 1 rfl hh (fa rfl) rfl) ?_
 refine Yh 0 rfl c17 (bB rfl hh (sc rfl) rfl Ent.rfl) ?_
 refine Yg c17 (xA rfl hh hh) ?_
 refine Yy (cL rfl hh c17 hh) ?_
 revert H;refine I1 (fun c18 H=>?_) fun c18 H=>?_
 refine Yt c18 ?_
 refine Yt c18 ?_
 refine Yt c18 ?_
 refine Yt c18 ?_
 refine Yy (cZ rfl hh c18 hh) ?_
 refine Z2 ?_
 refine cK ?_
 refine cC (φs':=[fSl aD a0.p.AF,fSl aM a0.p.AD,fSl aB a0.p.AE,fI a0.p.AG,fEq v1,fEq v2,fEq v3,aK true]) a2g rfl rfl (has rfl) (has rfl) (aH a2g) (sz rfl) rfl rfl ?_
 refine Z3 ?_
 exact Tm ((a2,a0.p.AF,a0.p.AD,a0.p.AE,a0.p.AG,a0.Af.set a1.toNat a2,a0.Al.set a1.toNat z1,a0.Ak,true,v1,v2,v3)) (ij H)
 refine Yg c18 (bV 1 rfl hh (fa rfl) rfl) ?_
 refine Yh 0 rfl c18 (bB rfl hh (sc rfl) rfl Ent.rfl) ?_
 refine Yg c18 (cF rfl hh) ?_
 refine Yg c18 (sI rfl hh hh) ?_
 refine Yy (cL rfl hh c18 hh) ?_
 refine Z2 ?_
 refine cK ?_
 refine cC (φs':=[fSl aD a0.p.AF,fSl aM a0.p.AD,fSl aB a0.p.AE,fI a0.p.AG,fEq v1,fEq v2,fEq v3,aK (decide (a2<=y5.N))]) a2g rfl rfl (has rfl) (has rfl) (aH a2g) (sz rfl) rfl rfl ?_
 refine Z3 ?_
 exact Tm ((a2,a0.p.AF,a0.p.AD,a0.p.AE,a0.p.AG,a0.Af.set a1.toNat a2,a0.Al.set a1.toNat z1,a0.Ak,decide (a2<=y5.N),v1,v2,v3)) (ij H)
 refine dB hh c16 ?_
 revert H;refine I4 (fun c19 H=>?_) fun c19 H=>?_
 refine dD hh c19 ?_
 refine aI ?_
 refine aI ?_
 revert H;refine is (fun c20 H=>?_) fun c20 H=>?_
 apply bL (ods:=[_,_,_,_,_,_,_,_,_,_,_,_,_,_,_,_,_,_,_,_,_,_,_,_,_]) 25 0 5 bK rfl rfl rfl
 refine ND ?_
 refine M4 ?_
 intros
 refine Mt c20 fun _=>?_
 refine Mt c20 fun _=>?_
 refine Mt c20 fun _=>?_
 refine Mt c20 fun _=>?_
 refine Mt c20 fun _=>?_
 refine Mt c20 fun _=>?_
 refine Mt c20 fun _=>?_
 refine Mt c20 fun _=>?_
 refine Mt c20 fun _=>?_
 refine My (cZ rfl hh c20 hh) fun _=>?_
 refine M8 ?_
 intros
 refine M3 ?_
 intros
 refine Z7 ?_
 refine cK ?_
 refine cC (φs':=[fSl aD a0.p.AF,fSl aM a0.p.AD,fSl aB a0.p.AE,fI a0.p.AG,fEq v1,fEq v2,fEq v3,aK true]) a2g rfl rfl (has rfl) (has rfl) (aH a2g) (sz rfl) rfl rfl ?_
 revert H;refine B4 fun r6 H e6=>?_
 cases e6;cases Hr4
 refine aZ ?_
 refine aZ ?_
 refine aZ ?_
 refine cY ?_
 refine fZ (x:=(⟨(⟨a0.p.AF,a0.p.AD,a0.p.AE,a0.p.AG⟩:AI),a0.Af.set a1.toNat a2,a0.Al.set a1.toNat z1,a0.Ak,true⟩:Ah)) ?_
 cases H
 refine aE [0] (by decide) ?_
 exact eP (.inl rfl) rfl rfl
 exact fk
 kernel_rfl
 revert H;refine is (fun c21 H=>?_) fun c21 H=>?_
 apply bL (ods:=[_,_,_,_,_,_,_,_,_,_,_,_,_,_,_,_,_,_,_,_,_,_,_,_,_]) 25 0 5 bK rfl rfl rfl
 refine ND ?_
 refine M4 ?_
 intros
 refine Mg c20 (bV 1 rfl hh (fa rfl) rfl) fun _=>?_
 refine dJ (od:=odC [0] false (fI y5.N) [cQ]) (ps:=[0]) (φ:=fI y5.N) rfl (fun _=>rfl) ⟨_,_,rfl,rfl,c20⟩ rfl rfl (bB rfl hh (sc rfl) rfl Ent.rfl) (fun _=>?_)
 refine Mg c20 (cF rfl hh) fun _=>?_
 refine Mg c20 (kC rfl (has rfl) (fun m v h=>⟨_,h⟩)) fun _=>?_
 refine Mg c20 (bV 0 rfl hh (fa rfl) rfl) fun _=>?_
 refine Mg c20 (bV 2 rfl hh (fa rfl) rfl) fun _=>?_
 refine dJ (od:=odC [1] false (fSl aB a0.p.AE) [cQ]) (ps:=[1]) (φ:=fSl aB a0.p.AE) rfl (fun _=>rfl) ⟨_,_,rfl,rfl,c20⟩ rfl rfl (bB rfl hh (sc rfl) rfl Ent.rfl) (fun _=>?_)
 refine Mg c20 (fC rfl hh (us rfl)) fun _=>?_
 refine Mg c20 (sI rfl hh hh) fun _=>?_
 refine My (cL rfl hh c20 hh) fun _=>?_
 refine M1 ?_
 intros
 refine Mt c21 fun _=>?_
 refine Mt c21 fun _=>?_
 refine Mt c21 fun _=>?_
 refine Mt c21 fun _=>?_
 refine Mt c21 fun _=>?_
 refine Mt c21 fun _=>?_
 refine Mt c21 fun _=>?_
 refine Mt c21 fun _=>?_
 refine Mt c21 fun _=>?_
 refine My (cZ rfl hh c21 hh) fun _=>?_
 refine Z7 ?_
 refine cK ?_
 refine cC (φs':=[fSl aD a0.p.AF,fSl aM a0.p.AD,fSl aB a0.p.AE,fI a0.p.AG,fEq v1,fEq v2,fEq v3,aK true]) a2g rfl rfl (has rfl) (has rfl) (aH a2g) (sz rfl) rfl rfl ?_
 revert H;refine B4 fun r7 H e7=>?_
 cases e7;cases Hr4
 refine aZ ?_
 refine aZ ?_
 refine aZ ?_
 refine cY ?_
 refine fZ (x:=(⟨(⟨a0.p.AF,a0.p.AD,a0.p.AE,a0.p.AG⟩:AI),a0.Af.set a1.toNat a2,a0.Al.set a1.toNat z1,a0.Ak,true⟩:Ah)) ?_
 cases H
 refine aE [0] (by decide) ?_
 exact eP (.inl rfl) rfl rfl
 exact fk
 kernel_rfl
 revert H;refine bs fun y9 h11 H=>?_
 apply bL (ods:=[_,_,_,_,_,_,_,_,_,_,_,_,_,_,_,_,_,_,_,_,_,_,_,_,_]) 25 0 5 bK rfl rfl rfl
 refine ND ?_
 refine M4 ?_
 intros
 refine Mg c20 (bV 1 rfl hh (fa rfl) rfl) fun _=>?_
 refine dJ (od:=odC [0] false (fI y5.N) [cQ]) (ps:=[0]) (φ:=fI y5.N) rfl (fun _=>rfl) ⟨_,_,rfl,rfl,c20⟩ rfl rfl (bB rfl hh (sc rfl) rfl Ent.rfl) (fun _=>?_)
 refine Mg c20 (cF rfl hh) fun _=>?_
 refine Mg c20 (kC rfl (has rfl) (fun m v h=>⟨_,h⟩)) fun _=>?_
 refine Mg c20 (bV 0 rfl hh (fa rfl) rfl) fun _=>?_
 refine Mg c20 (bV 2 rfl hh (fa rfl) rfl) fun _=>?_
 refine dJ (od:=odC [1] false (fSl aB a0.p.AE) [cQ]) (ps:=[1]) (φ:=fSl aB a0.p.AE) rfl (fun _=>rfl) ⟨_,_,rfl,rfl,c20⟩ rfl rfl (bB rfl hh (sc rfl) rfl Ent.rfl) (fun _=>?_)
 refine Mg c20 (fC rfl hh (us rfl)) fun _=>?_
 refine Mg c20 (sI rfl hh hh) fun _=>?_
 refine My (cL rfl hh c20 hh) fun _=>?_
 refine M1 ?_
 intros
 refine Mg c21 (cF rfl hh) fun _=>?_
 refine Mg c21 (kC rfl (has rfl) (fun m v h=>⟨_,h⟩)) fun _=>?_
 refine Mg c21 (bV 6 rfl hh (fa rfl) rfl) fun _=>?_
 refine dJ (od:=odC [1] false (fEq v3) [cQ]) (ps:=[1]) (φ:=fEq v3) rfl (fun _=>rfl) ⟨_,_,rfl,rfl,c21⟩ rfl rfl (bB rfl hh (sc rfl) rfl Ent.rfl) (fun _=>?_)
 refine Mg c21 (bV 1 rfl hh (fa rfl) rfl) fun _=>?_
 refine dJ (od:=odC [0] false (fI y5.N) [cQ]) (ps:=[0]) (φ:=fI y5.N) rfl (fun _=>rfl) ⟨_,_,rfl,rfl,c21⟩ rfl rfl (bB rfl hh (sc rfl) rfl Ent.rfl) (fun _=>?_)
 refine dJ (od:=odC [4] false (tE v3 1 y5.N.toNat 0) [cQ]) (ps:=[4]) (φ:=tE v3 1 y5.N.toNat 0) rfl (fun _=>rfl) ⟨_,_,rfl,rfl,c21⟩ rfl rfl (jR rfl hh hh (el rfl) h11) (fun _=>?_)
 refine dJ (od:=odC [4] false (fI y9) [cQ]) (ps:=[4]) (φ:=fI y9) rfl (fun _=>rfl) ⟨_,_,rfl,rfl,c21⟩ rfl rfl (kI rfl rfl hh (sc rfl) (eF h11) rfl) (fun _=>?_)
 refine Mg c21 (gV rfl hh hh) fun _=>?_
 refine My (cL rfl hh c21 hh) fun _=>?_
 revert H;refine I2 (fun c22 H=>?_) fun c22 H=>?_
 refine dD hh c22 ?_
 refine Z4 ?_
 refine cK ?_
 refine cC (φs':=[fSl aD a0.p.AF,fSl aM a0.p.AD,fSl aB a0.p.AE,fI a0.p.AG,fEq v1,fEq v2,fEq v3,aK true]) a2g rfl rfl (has rfl) (has rfl) (aH a2g) (sz rfl) rfl rfl ?_
 revert H;refine B4 fun r8 H e8=>?_
 cases e8;cases Hr4
 refine aZ ?_
 refine aZ ?_
 refine aZ ?_
 refine cY ?_
 refine fZ (x:=(⟨(⟨a0.p.AF,a0.p.AD,a0.p.AE,a0.p.AG⟩:AI),a0.Af.set a1.toNat a2,a0.Al.set a1.toNat z1,a0.Ak,true⟩:Ah)) ?_
 cases H
 refine aE [0] (by decide) ?_
 exact eP (.inl rfl) rfl rfl
 refine dB hh c22 ?_
 refine Z2 ?_
 refine aI ?_
 revert H;refine bs fun y10 h12 H=>?_
 revert H;refine bs fun z3 h13 H=>?_
 revert H;refine bs fun y11 h14 H=>?_
 apply bL (ods:=[_,_,_,_,_,_,_,_,_,_,_]) 11 0 5 bK rfl rfl rfl
 refine ND ?_
 refine M6 ?_
 intros
 refine Mo 4 rfl (jR rfl hh hh (el rfl) h12) fun _=>?_
 refine Mo 4 rfl (kI rfl rfl hh (sc rfl) (eF h12) rfl) fun _=>?_
 refine My (fP rfl hh hh h13) fun _=>?_
 refine Mo 4 rfl (jR rfl hh hh (el rfl) h14) fun _=>?_
 refine sS (od:=odC [4] true (dX) [aC v3 3 tI (a0.Ak.set y5.N.toNat z3)]) (p:=4) (z':=z3) rfl (fun _=>rfl) (fun _=>rfl) a2g rfl rfl rfl rfl (has rfl) (has rfl) (aH a2g) (sz rfl) (eF h14) rfl rfl (fun _=>?_)
 refine Z2 ?_
 refine aI ?_
 revert H;refine bs fun y12 h15 H=>?_
 revert H;refine bs fun y13 h16 H=>?_
 revert H;refine bs fun z4 h17 H=>?_
 apply bL (ods:=[_,_,_,_,_,_,_,_,_,_,_,_,_]) 13 0 5 bK rfl rfl rfl
 refine ND ?_
 refine M8 ?_
 intros
 refine My (cT rfl hh hh (el rfl) h15) fun _=>?_
 refine M1 ?_
 intros
 refine Nc (aIz _ _ h16) fun _=>?_
 refine My (fP rfl hh hh h17) fun _=>?_
 refine M1 ?_
 intros
 revert H;refine B2 fun y14 h18 H=>?_
 apply bL (ods:=[_,_,_,_,_,_,_,_,_,_,_]) 11 0 5 bK rfl rfl rfl
 refine ND ?_
 refine M8 ?_
 intros
 refine My (cT rfl hh hh (el rfl) h18) fun _=>?_
 refine M2 ?_
 intros
 refine Z1 ?_
 refine aZ ?_
 refine aZ ?_
 refine aZ ?_
 refine aZ ?_
 refine fZ (x:=(⟨(⟨a0.p.AF,a0.p.AD,a0.p.AE,a0.p.AG⟩:AI),a0.Af.set a1.toNat a2,a0.Al.set a1.toNat z1,a0.Ak.set y5.N.toNat z3,x1⟩:Ah)) ?_
 revert H;refine bs fun y15 h19 H=>?_
 refine Tc (ih_r03_look_def _ _ _ _ _ h19) ?_
 refine tZ (fun v7 v8 v9=>?_)
 refine aJ 1 rfl (fun hc_v7=>?_)
 refine aJ 2 rfl (fun hc_v8=>?_)
 refine aJ 3 rfl (fun hc_v9=>?_)
 refine Z3 ?_
 refine aE [0,4,1,2,3] (by decide) ?_
 exact Tm ((z4,y15.p.AF,y15.p.AD,y15.p.AE,y15.p.AG,y15.Af,y15.Al,y15.Ak,y15.bad,v7,v8,v9)) (ij H)
 exact fk
 kernel_rfl
 exact fk
 kernel_rfl
 exact fk
 kernel_rfl
 exact fk
 kernel_rfl
 refine dB hh c19 ?_
 refine Z7 ?_
 revert H;refine cs (fun c23 H=>?_) fun c23 H=>?_
 refine Yt c23 ?_
 refine Yt c23 ?_
 refine Yt c23 ?_
 refine Yy (cZ rfl hh c23 hh) ?_
 refine Z2 ?_
 refine cK ?_
 refine cC (φs':=[fSl aD a0.p.AF,fSl aM a0.p.AD,fSl aB a0.p.AE,fI a0.p.AG,fEq v1,fEq v2,fEq v3,aK true]) a2g rfl rfl (has rfl) (has rfl) (aH a2g) (sz rfl) rfl rfl ?_
 refine Z3 ?_
 exact Tm ((a2,a0.p.AF,a0.p.AD,a0.p.AE,a0.p.AG,a0.Af.set a1.toNat a2,a0.Al.set a1.toNat z1,a0.Ak,true,v1,v2,v3)) (ij H)
 refine Yg c23 (bV 1 rfl hh (fa rfl) rfl) ?_
 refine Yh 0 rfl c23 (bB rfl hh (sc rfl) rfl Ent.rfl) ?_
 refine Yg c23 (mK rfl hh hh) ?_
 refine Yy (cL rfl hh c23 hh) ?_
 refine Z2 ?_
 refine cK ?_
 refine cC (φs':=[fSl aD a0.p.AF,fSl aM a0.p.AD,fSl aB a0.p.AE,fI a0.p.AG,fEq v1,fEq v2,fEq v3,aK (decide (y5.N≠0))]) a2g rfl rfl (has rfl) (has rfl) (aH a2g) (sz rfl) rfl rfl ?_
 refine Z3 ?_
 exact Tm ((a2,a0.p.AF,a0.p.AD,a0.p.AE,a0.p.AG,a0.Af.set a1.toNat a2,a0.Al.set a1.toNat z1,a0.Ak,decide (y5.N≠0),v1,v2,v3)) (ij H)
 clear H;intro i hi;obtain⟨x7,x8,x9,x10,x11,x12,x13,x14,x15,v4,v5,v6⟩:=i;subst o4;have H:=Hr4;clear Hr4;try dsimp only at H
 try dsimp only
 refine aJ 2 rfl (fun hc_v4=>?_)
 refine aJ 3 rfl (fun hc_v5=>?_)
 refine aJ 4 rfl (fun hc_v6=>?_)
 refine Z4 ?_
 refine Tl (ι:=Nat × Int × List ByteArray × List AW × List AO × Int × List Int × List Int × List Int × Bool × Value × Value × Value) (fun i=>jI (eV AA) y5 x7 i.1 i.2.1 i.2.2.1 i.2.2.2.1 i.2.2.2.2.1 i.2.2.2.2.2.1 i.2.2.2.2.2.2.1 i.2.2.2.2.2.2.2.1 i.2.2.2.2.2.2.2.2.1 i.2.2.2.2.2.2.2.2.2.1=_) (fun i=>i.1) (fun i=>[(0,fEq (ptr p0)),(6,fEq (ptr b1)),(11,fI x7),(12,fI i.2.1)]) (fun i=>[aA p0 122 [fSl aD i.2.2.1,fSl aM i.2.2.2.1,fSl aB i.2.2.2.2.1,fI i.2.2.2.2.2.1,fEq i.2.2.2.2.2.2.2.2.2.2.1,fEq i.2.2.2.2.2.2.2.2.2.2.2.1,fEq i.2.2.2.2.2.2.2.2.2.2.2.2,aK i.2.2.2.2.2.2.2.2.2.1],aA b1 65 [fI y5.Op,fI y5.N,fSl aO y5.AU,fSl tI y5.AM],aC i.2.2.2.2.2.2.2.2.2.2.1 3 tI i.2.2.2.2.2.2.1,aC i.2.2.2.2.2.2.2.2.2.2.2.1 3 tI i.2.2.2.2.2.2.2.1,aC i.2.2.2.2.2.2.2.2.2.2.2.2 3 tI i.2.2.2.2.2.2.2.2.1]) (AA,0,x8,x9,x10,x11,x12,x13,x14,x15,v4,v5,v6) H ?_
 clear H;rintro⟨k2,x26,x27,x28,x29,x30,x31,x32,x33,x34,v13,v14,v15⟩ H
 replace H:jI (eV AA) y5 x7 k2 x26 x27 x28 x29 x30 x31 x32 x33 x34=_:=H
 try dsimp only
 obtain _ | k2:=k2
 rw [jI]at H;cases H
 rw [jI]at H
 refine aJ 2 rfl (fun hc_v13=>?_)
 refine aJ 3 rfl (fun hc_v14=>?_)
 refine aJ 4 rfl (fun hc_v15=>?_)
 refine aI ?_
 revert H;refine I7 (fun c24 H=>?_) fun c24 H=>?_
 refine Yg c24 (cF rfl hh) ?_
 refine Yg c24 (kC rfl (has rfl) (fun m v h=>⟨_,h⟩)) ?_
 refine Yg c24 (bV 7 rfl hh (fa rfl) rfl) ?_
 refine Yh 0 rfl c24 (bB rfl hh (sc rfl) rfl Ent.rfl) ?_
 refine Yg c24 (mV rfl hh) ?_
 refine Yy (cZ rfl hh c24 hh) ?_
 refine Z1 ?_
 revert H;refine cs (fun c25 H=>?_) fun c25 H=>?_
 refine dB hh (pL c25) ?_
 refine Z4 ?_
 refine aZ ?_
 refine aZ ?_
 refine aZ ?_
 refine cY ?_
 refine fZ (x:=(⟨(⟨x27,x28,x29,x30⟩:AI),x31,x32,x33,x34⟩:Ah)) ?_
 cases H
 refine aE [0] (by decide) ?_
 exact eP (.inr rfl) rfl rfl
 refine dD hh (qJ c25) ?_
 refine Z2 ?_
 refine aI ?_
 revert H;refine B6 fun y16 h20 H=>?_
 refine Yy (cT rfl hh hh (el rfl) h20) ?_
 refine Z2 ?_
 refine aZ ?_
 refine aZ ?_
 refine aZ ?_
 refine cY ?_
 refine fZ (x:=(⟨(⟨x27,x28,x29,x30⟩:AI),x31,x32,x33,x34⟩:Ah)) ?_
 revert H;refine bs fun y17 h21 H=>?_
 refine Tc (ih_r03_look_node _ _ _ _ _ h21) ?_
 refine tZ (fun v16 v17 v18=>?_)
 refine aJ 1 rfl (fun hc_v16=>?_)
 refine aJ 2 rfl (fun hc_v17=>?_)
 refine aJ 3 rfl (fun hc_v18=>?_)
 revert H;refine B5 fun z5 h22 H=>?_
 refine Yy (fP rfl hh hh h22) ?_
 refine Z2 ?_
 refine aE [0,4,1,2,3] (by decide) ?_
 exact Tm ((k2,z5,y17.p.AF,y17.p.AD,y17.p.AE,y17.p.AG,y17.Af,y17.Al,y17.Ak,y17.bad,v16,v17,v18)) ⟨H,ls⟩
 refine Yf c24 ?_
 refine Yf c24 ?_
 refine Yf c24 ?_
 refine Yf c24 ?_
 refine Yf c24 ?_
 refine Yy (cL rfl hh c24 hh) ?_
 refine Z6 ?_
 refine aZ ?_
 refine aZ ?_
 refine aZ ?_
 refine cY ?_
 refine fZ (x:=(⟨(⟨x27,x28,x29,x30⟩:AI),x31,x32,x33,x34⟩:Ah)) ?_
 cases H
 refine aE [0] (by decide) ?_
 exact eP (.inr rfl) rfl rfl
 intro p0 a0 a1 a2 r H
 rw [nO]at H
 refine bG Tryz.func119 rfl Tryz.ntmps119 rfl (fun β=>?_)
 refine tZ (fun v1 v2 v3=>?_)
 refine aJ 1 rfl (fun hc_v1=>?_)
 refine aJ 2 rfl (fun hc_v2=>?_)
 refine aJ 3 rfl (fun hc_v3=>?_)
 refine Z1 ?_
 refine Tn (bU rfl hh bS) fun b1=>?_
 revert H;refine B1 fun o1 H Hr1=>?_
 refine aR (ι:=List ByteArray × List AW × List AO × Int × List Int × List Int × List Int × Bool × Value × Value × Value) (fun i=>o1=(i.1,i.2.1,i.2.2.1,i.2.2.2.1,i.2.2.2.2.1,i.2.2.2.2.2.1,i.2.2.2.2.2.2.1,i.2.2.2.2.2.2.2.1)) (fun i=>[(0,fEq (ptr p0)),(2,fI a2),(4,fEq (ptr b1))]) (fun i=>[aA b1 77 [fSl aW a1.AN,fSl bD a1.AR,fSl aY a1.AP],aA p0 122 [fSl aD i.1,fSl aM i.2.1,fSl aB i.2.2.1,fI i.2.2.2.1,fEq i.2.2.2.2.2.2.2.2.1,fEq i.2.2.2.2.2.2.2.2.2.1,fEq i.2.2.2.2.2.2.2.2.2.2,aK i.2.2.2.2.2.2.2.1],aC i.2.2.2.2.2.2.2.2.1 3 tI i.2.2.2.2.1,aC i.2.2.2.2.2.2.2.2.2.1 3 tI i.2.2.2.2.2.1,aC i.2.2.2.2.2.2.2.2.2.2 3 tI i.2.2.2.2.2.2.1]) ?_ ?_
 refine Z4 ?_
 refine Tl (ι:=Nat × Int × List ByteArray × List AW × List AO × Int × List Int × List Int × List Int × Bool × Value × Value × Value) (fun i=>kR AA (eV AA) a1 a2 i.1 i.2.1 i.2.2.1 i.2.2.2.1 i.2.2.2.2.1 i.2.2.2.2.2.1 i.2.2.2.2.2.2.1 i.2.2.2.2.2.2.2.1 i.2.2.2.2.2.2.2.2.1 i.2.2.2.2.2.2.2.2.2.1=_) (fun i=>i.1) (fun i=>[(0,fEq (ptr p0)),(2,fI a2),(4,fEq (ptr b1)),(6,fI i.2.1)]) (fun i=>[aA b1 77 [fSl aW a1.AN,fSl bD a1.AR,fSl aY a1.AP],aA p0 122 [fSl aD i.2.2.1,fSl aM i.2.2.2.1,fSl aB i.2.2.2.2.1,fI i.2.2.2.2.2.1,fEq i.2.2.2.2.2.2.2.2.2.2.1,fEq i.2.2.2.2.2.2.2.2.2.2.2.1,fEq i.2.2.2.2.2.2.2.2.2.2.2.2,aK i.2.2.2.2.2.2.2.2.2.1],aC i.2.2.2.2.2.2.2.2.2.2.1 3 tI i.2.2.2.2.2.2.1,aC i.2.2.2.2.2.2.2.2.2.2.2.1 3 tI i.2.2.2.2.2.2.2.1,aC i.2.2.2.2.2.2.2.2.2.2.2.2 3 tI i.2.2.2.2.2.2.2.2.1]) (AA,0,a0.p.AF,a0.p.AD,a0.p.AE,a0.p.AG,a0.Af,a0.Al,a0.Ak,a0.bad,v1,v2,v3) H ?_
 clear H;rintro⟨k1,x18,x19,x20,x21,x22,x23,x24,x25,x26,v10,v11,v12⟩ H
 replace H:kR AA (eV AA) a1 a2 k1 x18 x19 x20 x21 x22 x23 x24 x25 x26=_:=H
 try dsimp only
 obtain _ | k1:=k1
 rw [kR]at H;cases H
 rw [kR]at H
 refine aJ 2 rfl (fun hc_v10=>?_)
 refine aJ 3 rfl (fun hc_v11=>?_)
 refine aJ 4 rfl (fun hc_v12=>?_)
 refine aI ?_
 revert H;refine I7 (fun c1 H=>?_) fun c1 H=>?_
 refine Yg c1 (cF rfl hh) ?_
 refine Yg c1 (kC rfl (has rfl) (fun m v h=>⟨_,h⟩)) ?_
 refine Yg c1 (bV 7 rfl hh (fa rfl) rfl) ?_
 refine Yh 1 rfl c1 (bB rfl hh (sc rfl) rfl Ent.rfl) ?_
 refine Yg c1 (mV rfl hh) ?_
 refine Yy (cZ rfl hh c1 hh) ?_
 refine Z1 ?_
 revert H;refine cs (fun c2 H=>?_) fun c2 H=>?_
 refine dB hh (pL c2) ?_
 refine Z5 ?_
 exact Tm ((x19,x20,x21,x22,x23,x24,x25,x26,v10,v11,v12)) (ij H)
 refine dD hh (qJ c2) ?_
 refine Z2 ?_
 refine aI ?_
 revert H;refine B1 fun y1 h1 H=>?_
 revert H;refine bs fun y2 h2 H=>?_
 revert H;refine bs fun y3 h3 H=>?_
 revert H;refine bs fun z1 h4 H=>?_
 apply bL (ods:=[_,_,_,_,_,_,_,_,_,_,_,_,_,_,_,_]) 16 0 5 bK rfl rfl rfl
 refine ND ?_
 refine M4 ?_
 intros
 refine My (cT rfl hh hh (el rfl) h1) fun _=>?_
 refine M7 ?_
 intros
 refine My (cT rfl hh hh (el rfl) h2) fun _=>?_
 refine M1 ?_
 intros
 refine Nc (aJx _ _ _ _ h3) fun _=>?_
 refine My (fP rfl hh hh h4) fun _=>?_
 refine Z1 ?_
 refine aZ ?_
 refine aZ ?_
 refine aZ ?_
 refine aZ ?_
 refine fZ (x:=(⟨(⟨x19,x20,x21,x22⟩:AI),x23,x24,x25,x26⟩:Ah)) ?_
 revert H;refine bs fun y4 h5 H=>?_
 refine Tc (ih_r03_look_node _ _ _ _ _ h5) ?_
 refine tZ (fun v13 v14 v15=>?_)
 refine aJ 1 rfl (fun hc_v13=>?_)
 refine aJ 2 rfl (fun hc_v14=>?_)
 refine aJ 3 rfl (fun hc_v15=>?_)
 revert H;refine B5 fun z2 h6 H=>?_
 refine Yy (fP rfl hh hh h6) ?_
 refine Z2 ?_
 refine aE [4,0,1,2,3] (by decide) ?_
 exact Tm ((k1,z2,y4.p.AF,y4.p.AD,y4.p.AE,y4.p.AG,y4.Af,y4.Al,y4.Ak,y4.bad,v13,v14,v15)) ⟨H,ls⟩
 exact fk
 kernel_rfl
 refine Yf c1 ?_
 refine Yf c1 ?_
 refine Yf c1 ?_
 refine Yf c1 ?_
 refine Yf c1 ?_
 refine Yy (cL rfl hh c1 hh) ?_
 refine Z7 ?_
 exact Tm ((x19,x20,x21,x22,x23,x24,x25,x26,v10,v11,v12)) (ij H)
 clear H;intro i hi;obtain⟨x1,x2,x3,x4,x5,x6,x7,x8,v4,v5,v6⟩:=i;subst o1;have H:=Hr1;clear Hr1;try dsimp only at H
 try dsimp only
 refine aJ 2 rfl (fun hc_v4=>?_)
 refine aJ 3 rfl (fun hc_v5=>?_)
 refine aJ 4 rfl (fun hc_v6=>?_)
 refine Z4 ?_
 refine Tl (ι:=Nat × Int × List ByteArray × List AW × List AO × Int × List Int × List Int × List Int × Bool × Value × Value × Value) (fun i=>kO (eV AA) a1 a2 i.1 i.2.1 i.2.2.1 i.2.2.2.1 i.2.2.2.2.1 i.2.2.2.2.2.1 i.2.2.2.2.2.2.1 i.2.2.2.2.2.2.2.1 i.2.2.2.2.2.2.2.2.1 i.2.2.2.2.2.2.2.2.2.1=_) (fun i=>i.1) (fun i=>[(0,fEq (ptr p0)),(2,fI a2),(4,fEq (ptr b1)),(7,fI i.2.1)]) (fun i=>[aA b1 77 [fSl aW a1.AN,fSl bD a1.AR,fSl aY a1.AP],aA p0 122 [fSl aD i.2.2.1,fSl aM i.2.2.2.1,fSl aB i.2.2.2.2.1,fI i.2.2.2.2.2.1,fEq i.2.2.2.2.2.2.2.2.2.2.1,fEq i.2.2.2.2.2.2.2.2.2.2.2.1,fEq i.2.2.2.2.2.2.2.2.2.2.2.2,aK i.2.2.2.2.2.2.2.2.2.1],aC i.2.2.2.2.2.2.2.2.2.2.1 3 tI i.2.2.2.2.2.2.1,aC i.2.2.2.2.2.2.2.2.2.2.2.1 3 tI i.2.2.2.2.2.2.2.1,aC i.2.2.2.2.2.2.2.2.2.2.2.2 3 tI i.2.2.2.2.2.2.2.2.1]) (AA,0,x1,x2,x3,x4,x5,x6,x7,x8,v4,v5,v6) H ?_
 clear H;rintro⟨k2,x36,x37,x38,x39,x40,x41,x42,x43,x44,v19,v20,v21⟩ H
 replace H:kO (eV AA) a1 a2 k2 x36 x37 x38 x39 x40 x41 x42 x43 x44=_:=H
 try dsimp only
 obtain _ | k2:=k2
 rw [kO]at H;cases H
 rw [kO]at H
 refine aJ 2 rfl (fun hc_v19=>?_)
 refine aJ 3 rfl (fun hc_v20=>?_)
 refine aJ 4 rfl (fun hc_v21=>?_)
 refine aI ?_
 revert H;refine I7 (fun c3 H=>?_) fun c3 H=>?_
 refine Yg c3 (cF rfl hh) ?_
 refine Yg c3 (kC rfl (has rfl) (fun m v h=>⟨_,h⟩)) ?_
 refine Yg c3 (bV 7 rfl hh (fa rfl) rfl) ?_
 refine Yh 1 rfl c3 (bB rfl hh (sc rfl) rfl Ent.rfl) ?_
 refine Yg c3 (mV rfl hh) ?_
 refine Yy (cZ rfl hh c3 hh) ?_
 refine Z1 ?_
 revert H;refine cs (fun c4 H=>?_) fun c4 H=>?_
 refine dB hh (pL c4) ?_
 refine Z4 ?_
 refine aZ ?_
 refine aZ ?_
 refine aZ ?_
 refine aZ ?_
 refine fZ (x:=(⟨(⟨x37,x38,x39,x40⟩:AI),x41,x42,x43,x44⟩:Ah)) ?_
 cases H
 refine aE [0] (by decide) ?_
 exact eP (.inr rfl) rfl rfl
 refine dD hh (qJ c4) ?_
 refine Z2 ?_
 refine aI ?_
 revert H;refine B6 fun y5 h7 H=>?_
 refine Yy (cT rfl hh hh (el rfl) h7) ?_
 refine Z3 ?_
 refine aZ ?_
 refine aZ ?_
 refine aZ ?_
 refine aZ ?_
 refine fZ (x:=(⟨(⟨x37,x38,x39,x40⟩:AI),x41,x42,x43,x44⟩:Ah)) ?_
 revert H;refine bs fun y6 h8 H=>?_
 refine Tc (ih_r03_look_node _ _ _ _ _ h8) ?_
 refine tZ (fun v22 v23 v24=>?_)
 refine aJ 1 rfl (fun hc_v22=>?_)
 refine aJ 2 rfl (fun hc_v23=>?_)
 refine aJ 3 rfl (fun hc_v24=>?_)
 revert H;refine B5 fun z3 h9 H=>?_
 refine Yy (fP rfl hh hh h9) ?_
 refine Z2 ?_
 refine aE [4,0,1,2,3] (by decide) ?_
 exact Tm ((k2,z3,y6.p.AF,y6.p.AD,y6.p.AE,y6.p.AG,y6.Af,y6.Al,y6.Ak,y6.bad,v22,v23,v24)) ⟨H,ls⟩
 refine Yf c3 ?_
 refine Yf c3 ?_
 refine Yf c3 ?_
 refine Yf c3 ?_
 refine Yf c3 ?_
 refine Yy (cL rfl hh c3 hh) ?_
 refine Z6 ?_
 refine aZ ?_
 refine aZ ?_
 refine aZ ?_
 refine aZ ?_
 refine fZ (x:=(⟨(⟨x37,x38,x39,x40⟩:AI),x41,x42,x43,x44⟩:Ah)) ?_
 cases H
 refine aE [0] (by decide) ?_
 exact eP (.inr rfl) rfl rfl
theorem aKF (AA:Nat) (p0:Nat) (a0:Ah) (a1:Int) (a2:Int) (r:Ah) (H:eV AA a0 a1 a2=some r):FnS Tryz.prog 84 [fEq (.pointer (some ⟨p0,0,none⟩)),fI a1,fI a2] [qU p0 a0] (dF []) (fun _=>[qU p0 r]):=(aLd AA).1 p0 a0 a1 a2 r H
end Go.Proofs.YtgidgoahhepmlaaGreat
namespace Go.BX
noncomputable section
inductive V where
 | int (k:IntKind) (n:Int)
 | bool (b:Bool)
 | str (s:ByteArray)
 | ptr (b off:Nat)
 | nilp
 | sl (b off len cap:Nat)
 | so (b off len es:Nat)
 | nils
 | map (b:Nat)
 | nilm
 | fn (f:Nat) (first cap:List V)
 | yld (l:Nat)
 | nilf
 | iface (t:Nat) (v:V)
 | nili
 | agg (cs:List V)
 | tup (vs:List V)
 deriving Inhabited
structure PE where
 v:V
 r:Bool
inductive O where
 | val (v:V)
 | panic (ch:List PE)
inductive Tr (α:Type) where
 | leaf
 | node (l:Tr α) (v:Option α) (r:Tr α)
inductive Pa where
 | h
 | l (p:Pa)
 | r (p:Pa)
def paD (d:Nat):Nat->Pa:=Nat.rec (fun _=> .h) (fun _ ih n=>Bool.rec (Bool.rec (.r (ih (Nat.sub (Nat.div n 2) 1))) (.l (ih (Nat.div n 2))) (Nat.beq (Nat.mod n 2) 1)) .h (Nat.beq n 0)) d
def pa (n:Nat):Pa:=paD (Nat.succ n) n
def gp {α:Type} (t:Tr α):Pa->Option α:=Tr.rec (fun _=>none) (fun _ v _ il ir p=>Pa.rec v (fun q _=>il q) (fun q _=>ir q) p) t
def one' {α β:Type} (v:Option α) (p:Pa):(Tr α->β)->β:=Pa.rec (fun k=>k (.node .leaf v .leaf)) (fun _ ih k=>ih fun t=>k (.node t none .leaf)) (fun _ ih k=>ih fun t=>k (.node .leaf none t)) p
def pp {α β:Type} (t:Tr α) (v:Option α):Pa->(Tr α->β)->β:=Tr.rec (fun p k=>one' v p k) (fun l x r il ir p k=>Pa.rec (k (.node l v r)) (fun q _=>il q fun l'=>k (.node l' x r)) (fun q _=>ir q fun r'=>k (.node l x r')) p) t
def vE {α β:Type} (l:List α):Nat->Tr α->(Tr α->β)->β:=List.rec (fun _ t k=>k t) (fun x _ ih n t k=>pp t (some x) (pa n) fun t=>ih (Nat.succ n) t k) l
def fA {β:Type} (n:Nat) (d:β) (f:Nat->β):β:=Nat.rec d (fun m _=>f m) (Nat.succ n)
def nth {α:Type} (l:List α):Nat->Option α:=List.rec (fun _=>none) (fun x _ ih n=>Nat.rec (some x) (fun m _=>ih m) n) l
def dr {α:Type} (n:Nat):List α->List α:=Nat.rec (fun l=>l) (fun _ ih l=>List.rec [] (fun _ r _=>ih r) l) n
def tk {α:Type} (n:Nat):List α->Option (List α):=Nat.rec (fun _=>some []) (fun _ ih l=>List.rec none (fun x r _=>Option.rec none (fun t=>some (x :: t)) (ih r)) l) n
def ap {α:Type} (l m:List α):List α:=List.rec m (fun x _ ih=>x :: ih) l
def ln {α:Type} (l:List α):Nat->Nat:=List.rec (fun n=>n) (fun _ _ ih n=>ih (Nat.succ n)) l
def ov {α:Type} (new:List α):List α->Option (List α):=List.rec (fun c=>some c) (fun x _ ih c=>List.rec none (fun _ r _=>Option.rec none (fun t=>some (x :: t)) (ih r)) c) new
def pl {α:Type} (new:List α) (off:Nat):List α->Option (List α):=Nat.rec (fun c=>ov new c) (fun _ ih c=>List.rec none (fun x r _=>Option.rec none (fun t=>some (x :: t)) (ih r)) c) off
def rep {α:Type} (l:List α) (n:Nat):List α:=Nat.rec [] (fun _ ih=>ap l ih) n
structure Ent where
 key:V
 val:V
 born:Nat
inductive Ob where
 | map (es:List Ent) (clock:Nat)
 | loop (st:LoopState) (pend:Option Code) (f:Nat) (e:Tr V) (n:Nat) (ps:List Nat) (sg bd:Code) (d:Nat)
 | dfr (live:Bool)
inductive Blk where
 | cells (c:List V) (t:Nat) (op:Nat)
 | obj (o:Ob)
inductive Fp where
 | cell (b lo hi:Nat) (w:Bool)
 | fresh (n0 n1:Nat)
structure S where
 h:Tr Blk
 nx:Nat
 log:List Fp
inductive AL where
 | ret (o:O)
 | fail
 | rd (b off n:Nat) (k:List V->AL)
 | rd1 (b off:Nat) (k:V->AL)
 | wr (b off:Nat) (l:List V) (k:AL)
 | sz (b:Nat) (k:Nat->Nat->Nat->AL)
 | new (c:List V) (t op:Nat) (k:Nat->AL)
 | del (b:Nat) (k:AL)
 | newO (o:Ob) (k:Nat->AL)
 | getO (b:Nat) (k:Ob->AL)
 | setO (b:Nat) (o:Ob) (k:AL)
 | sub (p:AL) (k:V->List Fp->AL)
def eE (n0 n1:Nat) (l:List Fp):List Fp:=List.rec [] (fun f _ ih=>Fp.rec (fun b lo hi w=>Bool.rec (Bool.rec (.cell b lo hi w :: ih) ih (Nat.blt b n1)) (.cell b lo hi w :: ih) (Nat.blt b n0)) (fun m0 m1=>Bool.rec (.fresh m0 m1 :: ih) (Bool.rec (.fresh m0 m1 :: ih) ih (Nat.ble m1 n1)) (Nat.ble n0 m0)) f) l
def ifN {β:Type} (b:Bool) (d p:β):β:=Bool.rec d p b
abbrev R:=Option (O × S)
abbrev St:=Tr Blk->Nat->List Fp->R
def rowK {β:Type} (x:Blk):(List V->Nat->Nat->β)->β->β:=Blk.rec (motive:=fun _=>(List V->Nat->Nat->β)->β->β) (fun c t op=>fun f _=>f c t op) (fun _=>fun _ d=>d) x
def obK {β:Type} (x:Blk):(Ob->β)->β->β:=Blk.rec (motive:=fun _=>(Ob->β)->β->β) (fun _ _ _=>fun _ d=>d) (fun o=>fun f _=>f o) x
def opt {α β:Type} (o:Option α) (d:β) (f:α->β):β:=Option.rec d f o
def rRd (b off n:Nat) (ih:List V->St):St:=fun h nx lg=>opt (gp h (pa b)) none fun k=>rowK k (fun c _ _=>opt (tk n (dr off c)) none fun l=>ifN (Nat.blt 0 n) none (ih l h nx (.cell b off (Nat.add off n) false :: lg))) none
def rRd1 (b off:Nat) (ih:V->St):St:=fun h nx lg=>opt (gp h (pa b)) none fun k=>rowK k (fun c _ _=>opt (nth c off) none fun v=>ih v h nx (.cell b off (Nat.succ off) false :: lg)) none
def rWr (b off:Nat) (l:List V) (ih:St):St:=fun h nx lg=>opt (gp h (pa b)) none fun k=>rowK k (fun c t op=>opt (pl l off c) none fun c'=>pp h (some (.cells c' t op)) (pa b) fun h=>ifN (Nat.blt 0 (ln l 0)) none (ih h nx (.cell b off (Nat.add off (ln l 0)) true :: lg))) none
def rSz (b:Nat) (ih:Nat->Nat->Nat->St):St:=fun h nx lg=>opt (gp h (pa b)) none fun k=>rowK k (fun c t op=>fA (ln c 0) none fun n=>ih n t op h nx (.cell b n (Nat.succ n) false :: lg)) none
def rNew (x:Blk) (ih:Nat->St):St:=fun h nx lg=>fA nx none fun n=>opt (gp h (pa n)) (pp h (some x) (pa n) fun h=>ih n h (Nat.succ n) (.fresh n (Nat.succ n) :: lg)) fun _=>none
def rDel (b:Nat) (ih:St):St:=fun h nx lg=>opt (gp h (pa b)) none fun k=>rowK k (fun c _ _=>pp h none (pa b) fun h=>ih h nx (.cell b 0 (Nat.succ (ln c 0)) true :: lg)) none
def rGetO (b:Nat) (ih:Ob->St):St:=fun h nx lg=>opt (gp h (pa b)) none fun k=>obK k (fun o=>ih o h nx (.cell b 0 1 false :: lg)) none
def rSetO (b:Nat) (o:Ob) (ih:St):St:=fun h nx lg=>opt (gp h (pa b)) none fun k=>obK k (fun _=>pp h (some (.obj o)) (pa b) fun h=>ih h nx (.cell b 0 1 true :: lg)) none
def rSub1 (ih:V->List Fp->St) (nx:Nat) (lg:List Fp) (r:R):R:=match r with
 | some (o,s)=>match o with
  | .val v=>match s with
   | ⟨h',nx',lg'⟩=>ih v (.fresh nx nx' :: eE nx nx' lg') h' nx' (.fresh nx nx' :: ap (eE nx nx' lg') lg)
  | .panic _=>none
 | none=>none
def rSub (ihp:St) (ih:V->List Fp->St):St:=fun h nx lg=>rSub1 ih nx lg (ihp h nx [])
def run (p:AL):St:=AL.rec (fun o h nx lg=>some (o,⟨h,nx,lg⟩)) (fun _ _ _=>none) (fun b off n _ ih=>rRd b off n ih) (fun b off _ ih=>rRd1 b off ih) (fun b off l _ ih=>rWr b off l ih)
 (fun b _ ih=>rSz b ih) (fun c t op _ ih=>rNew (.cells c t op) ih) (fun b _ ih=>rDel b ih) (fun o _ ih=>rNew (.obj o) ih) (fun b _ ih=>rGetO b ih) (fun b o _ ih=>rSetO b o ih) (fun _ _ ihp ih=>rSub ihp ih) p
end
noncomputable section
def tys (P:Program):Tr TypeInfo:=vE P.types.toList 0 .leaf fun t=>t
def fns (P:Program):Tr Func:=vE P.funcs.toList 0 .leaf fun t=>t
def info (P:Program) (t:Nat):Option TypeInfo:=gp (tys P) (pa t)
def fnAt (P:Program) (f:Nat):Option Func:=gp (fns P) (pa f)
def und1 (P:Program) (i:TypeInfo):Option TypeDesc:=match i.desc with
 | .named _ u=>match info P u with
  | some j=>some j.desc
  | none=>none
 | d=>some d
def und (P:Program) (t:Nat):Option TypeDesc:=match info P t with
 | some i=>und1 P i
 | none=>none
def szT (P:Program) (t:Nat):Option Nat:=match info P t with
 | some i=>some i.size
 | none=>none
def shp (P:Program) (t:Nat):Option (Option Nat):=match und P t with
 | some (.struct _)=>match szT P t with
  | some n=>some (some n)
  | none=>none
 | some (.array _ _)=>match szT P t with
  | some n=>some (some n)
  | none=>none
 | some _=>some none
 | none=>none
def isC:V->Bool
 | .agg _=>false
 | .tup _=>false
 | _=>true
def iT:List V->Bool
 | []=>true
 | v :: l=>match isC v with
  | true=>iT l
  | false=>false
mutual
def ofC:Value->Option V
 | .int k n=>some (.int k n)
 | .bool b=>some (.bool b)
 | .string s=>some (.str s)
 | .pointer none=>some .nilp
 | .slice none 0 0=>some .nils
 | .map none=>some .nilm
 | .nilFunc=>some .nilf
 | .nilIface=>some .nili
 | .iface t v=>match ofC v with
  | some x=>some (.iface t x)
  | none=>none
 | .agg cs=>match ofA cs with
  | some l=>match iT l with
   | true=>some (.agg l)
   | false=>none
  | none=>none
 | .tuple cs=>match ofA cs with
  | some l=>some (.tup l)
  | none=>none
 | _=>none
def ofA:Array Value->Option (List V)
 | ⟨l⟩=>ofL l
def ofL:List Value->Option (List V)
 | []=>some []
 | v :: l=>match ofC v with
  | some x=>match ofL l with
   | some r=>some (x :: r)
   | none=>none
  | none=>none
end
def zer (P:Program) (t:Nat):Option V:=match info P t with
 | some i=>match i.zero with
  | some z=>ofC z
  | none=>none
 | none=>none
def eX:V:= .tup []
def vc0 (x:V):V->Option (List V):=V.rec (motive_1:=fun _=>V->Option (List V)) (motive_2:=fun _=>Unit) (fun _ _=>fun v=>some [v]) (fun _=>fun v=>some [v]) (fun _=>fun v=>some [v]) (fun _ _=>fun v=>some [v]) (fun v=>some [v]) (fun _ _ _ _=>fun v=>some [v]) (fun _ _ _ _=>fun v=>some [v]) (fun v=>some [v]) (fun _=>fun v=>some [v]) (fun v=>some [v]) (fun _ _ _ _ _=>fun v=>some [v]) (fun _=>fun v=>some [v]) (fun v=>some [v]) (fun _ _ _=>fun v=>some [v]) (fun v=>some [v]) (fun cs _=>fun _=>some cs) (fun _ _=>fun _=>none) () (fun _ _ _ _=>()) x
def vc (v:V):Option (List V):=vc0 v v
inductive Df where
 | fn (f:Nat) (args cap:List V)
 | col (r:Nat)
structure Ac where
 e:Tr V
 n:Nat
 ds:List Df
 ro:Option Nat
inductive X where
 | normal
 | exit (id:Nat)
 | ret
 | panic (ch:List PE)
abbrev KX:=X->Ac->AL
abbrev Ex:=Code->Ac->KX->AL
abbrev KV:=V->AL
abbrev H:=Program->Ex->Tr V->KV->(List PE->AL)->(Df->AL)->AL
def ev (x:Operand):Tr V->Option V:=Operand.rec (motive:=fun _=>Tr V->Option V) (fun t=>fun e=>gp e (pa t)) (fun c=>fun _=>ofC c) (fun _=>fun _=>none) (fun f=>fun _=>some (.fn f [] [])) x
def cP (x:Operand) (e:Tr V) (f:V->AL):AL:=Option.rec .fail f (ev x e)
def eB (x y:Operand) (e:Tr V) (f:V->V->AL):AL:=Option.rec .fail (fun v=>Option.rec .fail (f v) (ev y e)) (ev x e)
def eZ (x y z:Operand) (e:Tr V) (f:V->V->V->AL):AL:=cP x e fun v=>eB y z e (f v)
def evs (l:List Operand) (e:Tr V):Option (List V):=List.rec (some []) (fun x _ ih=>Option.rec none (fun v=>Option.rec none (fun vs=>some (v :: vs)) ih) (ev x e)) l
def fJ (l:List Operand) (e:Tr V) (f:List V->AL):AL:=opt (evs l e) .fail f
def evO (x:Option Operand) (e:Tr V):Option (Option V):=match x with
 | none=>some none
 | some x=>match ev x e with
  | some v=>some (some v)
  | none=>none
def zY (x:Option Operand) (e:Tr V) (f:Option V->AL):AL:=opt (evO x e) .fail f
def prt:List (Nat × Operand)->List Operand
 | []=>[]
 | (_,x) :: l=>x :: prt l
def dM (b:Bool) (p:AL):AL:=Bool.rec .fail p b
def ife {β:Type} (b:Bool) (p q:β):β:=Bool.rec q p b
def oo {α:Type} (o:Option α) (f:α->AL):AL:=opt o .fail f
def wU (x:V):(Nat->Nat->AL)->AL:=V.rec (motive_1:=fun _=>(Nat->Nat->AL)->AL) (motive_2:=fun _=>Unit) (fun _ _=>fun _=> .fail) (fun _=>fun _=> .fail) (fun _=>fun _=> .fail) (fun b off=>fun f=>f b off) (fun _=> .fail) (fun _ _ _ _=>fun _=> .fail) (fun _ _ _ _=>fun _=> .fail) (fun _=> .fail) (fun _=>fun _=> .fail) (fun _=> .fail) (fun _ _ _ _ _=>fun _=> .fail) (fun _=>fun _=> .fail) (fun _=> .fail) (fun _ _ _=>fun _=> .fail) (fun _=> .fail) (fun _ _=>fun _=> .fail) (fun _ _=>fun _=> .fail) () (fun _ _ _ _=>()) x
def yF {β:Type} (x:V):(IntKind->Int->β)->β->β:=V.rec (motive_1:=fun _=>(IntKind->Int->β)->β->β) (motive_2:=fun _=>Unit) (fun k n=>fun f _=>f k n) (fun _=>fun _ d=>d) (fun _=>fun _ d=>d) (fun _ _=>fun _ d=>d) (fun _ d=>d) (fun _ _ _ _=>fun _ d=>d) (fun _ _ _ _=>fun _ d=>d) (fun _ d=>d) (fun _=>fun _ d=>d) (fun _ d=>d) (fun _ _ _ _ _=>fun _ d=>d) (fun _=>fun _ d=>d) (fun _ d=>d) (fun _ _ _=>fun _ d=>d) (fun _ d=>d) (fun _ _=>fun _ d=>d) (fun _ _=>fun _ d=>d) () (fun _ _ _ _=>()) x
def asBool {β:Type} (x:V):(Bool->β)->β->β:=V.rec (motive_1:=fun _=>(Bool->β)->β->β) (motive_2:=fun _=>Unit) (fun _ _=>fun _ d=>d) (fun b=>fun f _=>f b) (fun _=>fun _ d=>d) (fun _ _=>fun _ d=>d) (fun _ d=>d) (fun _ _ _ _=>fun _ d=>d) (fun _ _ _ _=>fun _ d=>d) (fun _ d=>d) (fun _=>fun _ d=>d) (fun _ d=>d) (fun _ _ _ _ _=>fun _ d=>d) (fun _=>fun _ d=>d) (fun _ d=>d) (fun _ _ _=>fun _ d=>d) (fun _ d=>d) (fun _ _=>fun _ d=>d) (fun _ _=>fun _ d=>d) () (fun _ _ _ _=>()) x
def asAgg {β:Type} (x:V):(List V->β)->β->β:=V.rec (motive_1:=fun _=>(List V->β)->β->β) (motive_2:=fun _=>Unit) (fun _ _=>fun _ d=>d) (fun _=>fun _ d=>d) (fun _=>fun _ d=>d) (fun _ _=>fun _ d=>d) (fun _ d=>d) (fun _ _ _ _=>fun _ d=>d) (fun _ _ _ _=>fun _ d=>d) (fun _ d=>d) (fun _=>fun _ d=>d) (fun _ d=>d) (fun _ _ _ _ _=>fun _ d=>d) (fun _=>fun _ d=>d) (fun _ d=>d) (fun _ _ _=>fun _ d=>d) (fun _ d=>d) (fun cs _=>fun f _=>f cs) (fun _ _=>fun _ d=>d) () (fun _ _ _ _=>()) x
def asTup (x:V):(List V->AL)->AL:=V.rec (motive_1:=fun _=>(List V->AL)->AL) (motive_2:=fun _=>Unit) (fun _ _=>fun _=> .fail) (fun _=>fun _=> .fail) (fun _=>fun _=> .fail) (fun _ _=>fun _=> .fail) (fun _=> .fail) (fun _ _ _ _=>fun _=> .fail) (fun _ _ _ _=>fun _=> .fail) (fun _=> .fail) (fun _=>fun _=> .fail) (fun _=> .fail) (fun _ _ _ _ _=>fun _=> .fail) (fun _=>fun _=> .fail) (fun _=> .fail) (fun _ _ _=>fun _=> .fail) (fun _=> .fail) (fun _ _=>fun _=> .fail) (fun cs _=>fun f=>f cs) () (fun _ _ _ _=>()) x
def yK {β:Type} (x:V):(ByteArray->β)->β->β:=V.rec (motive_1:=fun _=>(ByteArray->β)->β->β) (motive_2:=fun _=>Unit) (fun _ _=>fun _ d=>d) (fun _=>fun _ d=>d) (fun s=>fun f _=>f s) (fun _ _=>fun _ d=>d) (fun _ d=>d) (fun _ _ _ _=>fun _ d=>d) (fun _ _ _ _=>fun _ d=>d) (fun _ d=>d) (fun _=>fun _ d=>d) (fun _ d=>d) (fun _ _ _ _ _=>fun _ d=>d) (fun _=>fun _ d=>d) (fun _ d=>d) (fun _ _ _=>fun _ d=>d) (fun _ d=>d) (fun _ _=>fun _ d=>d) (fun _ _=>fun _ d=>d) () (fun _ _ _ _=>()) x
def asSl (x:V):(Nat->Nat->Nat->Nat->AL)->(Nat->Nat->Nat->Nat->AL)->AL->AL->AL:=V.rec (motive_1:=fun _=>(Nat->Nat->Nat->Nat->AL)->(Nat->Nat->Nat->Nat->AL)->AL->AL->AL) (motive_2:=fun _=>Unit) (fun _ _=>fun _ _ _ d=>d) (fun _=>fun _ _ _ d=>d) (fun _=>fun _ _ _ d=>d) (fun _ _=>fun _ _ _ d=>d) (fun _ _ _ d=>d) (fun b off len cap=>fun f _ _ _=>f b off len cap) (fun b off len es=>fun _ g _ _=>g b off len es) (fun _ _ n _=>n) (fun _=>fun _ _ _ d=>d) (fun _ _ _ d=>d) (fun _ _ _ _ _=>fun _ _ _ d=>d) (fun _=>fun _ _ _ d=>d) (fun _ _ _ d=>d) (fun _ _ _=>fun _ _ _ d=>d) (fun _ _ _ d=>d) (fun _ _=>fun _ _ _ d=>d) (fun _ _=>fun _ _ _ d=>d) () (fun _ _ _ _=>()) x
def asMap (x:V):(Nat->AL)->AL->AL:=V.rec (motive_1:=fun _=>(Nat->AL)->AL->AL) (motive_2:=fun _=>Unit) (fun _ _=>fun _ _=> .fail) (fun _=>fun _ _=> .fail) (fun _=>fun _ _=> .fail) (fun _ _=>fun _ _=> .fail) (fun _ _=> .fail) (fun _ _ _ _=>fun _ _=> .fail) (fun _ _ _ _=>fun _ _=> .fail) (fun _ _=> .fail) (fun b=>fun f _=>f b) (fun _ n=>n) (fun _ _ _ _ _=>fun _ _=> .fail) (fun _=>fun _ _=> .fail) (fun _ _=> .fail) (fun _ _ _=>fun _ _=> .fail) (fun _ _=> .fail) (fun _ _=>fun _ _=> .fail) (fun _ _=>fun _ _=> .fail) () (fun _ _ _ _=>()) x
def asIf (x:V):(Nat->V->AL)->AL->AL:=V.rec (motive_1:=fun _=>(Nat->V->AL)->AL->AL) (motive_2:=fun _=>Unit) (fun _ _=>fun _ _=> .fail) (fun _=>fun _ _=> .fail) (fun _=>fun _ _=> .fail) (fun _ _=>fun _ _=> .fail) (fun _ _=> .fail) (fun _ _ _ _=>fun _ _=> .fail) (fun _ _ _ _=>fun _ _=> .fail) (fun _ _=> .fail) (fun _=>fun _ _=> .fail) (fun _ _=> .fail) (fun _ _ _ _ _=>fun _ _=> .fail) (fun _=>fun _ _=> .fail) (fun _ _=> .fail) (fun t v _=>fun f _=>f t v) (fun _ n=>n) (fun _ _=>fun _ _=> .fail) (fun _ _=>fun _ _=> .fail) () (fun _ _ _ _=>()) x
def asFn (x:V):(Nat->List V->List V->AL)->(Nat->AL)->AL:=V.rec (motive_1:=fun _=>(Nat->List V->List V->AL)->(Nat->AL)->AL) (motive_2:=fun _=>Unit) (fun _ _=>fun _ _=> .fail) (fun _=>fun _ _=> .fail) (fun _=>fun _ _=> .fail) (fun _ _=>fun _ _=> .fail) (fun _ _=> .fail) (fun _ _ _ _=>fun _ _=> .fail) (fun _ _ _ _=>fun _ _=> .fail) (fun _ _=> .fail) (fun _=>fun _ _=> .fail) (fun _ _=> .fail) (fun g a c _ _=>fun f _=>f g a c) (fun l=>fun _ y=>y l) (fun _ _=> .fail) (fun _ _ _=>fun _ _=> .fail) (fun _ _=> .fail) (fun _ _=>fun _ _=> .fail) (fun _ _=>fun _ _=> .fail) () (fun _ _ _ _=>()) x
def noNil (x:V):AL->AL:=V.rec (motive_1:=fun _=>AL->AL) (motive_2:=fun _=>Unit) (fun _ _=>fun _=> .fail) (fun _=>fun _=> .fail) (fun _=>fun _=> .fail) (fun _ _=>fun k=>k) (fun _=> .fail) (fun _ _ _ _=>fun _=> .fail) (fun _ _ _ _=>fun _=> .fail) (fun _=> .fail) (fun _=>fun _=> .fail) (fun _=> .fail) (fun _ _ _ _ _=>fun k=>k) (fun _=>fun k=>k) (fun _=> .fail) (fun _ _ _=>fun _=> .fail) (fun _=> .fail) (fun _ _=>fun _=> .fail) (fun _ _=>fun _=> .fail) () (fun _ _ _ _=>()) x
def OPEN:Nat:=9223372036854775808
def natI (x:Int):Option Nat:=Int.rec (motive:=fun _=>Option Nat) (fun k=>some k) (fun _=>none) x
def qZ (v:V):Option Nat:=yF v (fun _ n=>natI n) none
def inR (x:Int):(Int->AL)->AL:=Int.rec (motive:=fun _=>(Int->AL)->AL) (fun n=>fun k=>fA n .fail fun n=>dM (Nat.blt n OPEN) (k (.ofNat n))) (fun n=>fun k=>fA n .fail fun n=>dM (Nat.blt n OPEN) (k (.negSucc n))) x
def ltI (i j:Int):Bool:=match i,j with
 | .ofNat a, .ofNat b=>Nat.blt a b
 | .negSucc _, .ofNat _=>true
 | .negSucc a, .negSucc b=>Nat.blt b a
 | .ofNat _, .negSucc _=>false
def eqI (i j:Int):Bool:=match i,j with
 | .ofNat a, .ofNat b=>Nat.beq a b
 | .negSucc a, .negSucc b=>Nat.beq a b
 | _,_=>false
mutual
def gv:V->Option Value
 | .int k n=>some (.int k n)
 | .bool b=>some (.bool b)
 | .str s=>some (.string s)
 | .nilp=>some (.pointer none)
 | .nils=>some (.slice none 0 0)
 | .nilm=>some (.map none)
 | .nilf=>some .nilFunc
 | .nili=>some .nilIface
 | .iface t v=>match gv v with
  | some x=>some (.iface t x)
  | none=>none
 | .agg cs=>match iT cs with
  | true=>match gvs cs with
   | some l=>some (.agg ⟨l⟩)
   | none=>none
  | false=>none
 | .tup cs=>match gvs cs with
  | some l=>some (.tuple ⟨l⟩)
  | none=>none
 | _=>none
def gvs:List V->Option (List Value)
 | []=>some []
 | v :: l=>match gv v with
  | some x=>match gvs l with
   | some r=>some (x :: r)
   | none=>none
  | none=>none
end
def aBm (P:Program) {α:Type}:Sem α->Option α
 | .pure a=>some a
 | .program k=>aBm P (k P)
 | .mark _ k=>aBm P k
 | _=>none
def gen (P:Program) (m:Sem Value) (k:V->AL):AL:=oo (aBm P m) fun v=>oo (ofC v) k
def gen1 (P:Program) (m:Value->Sem Value) (x:V) (k:V->AL):AL:=oo (gv x) fun a=>gen P (m a) k
def gen2 (P:Program) (m:Value->Value->Sem Value) (x y:V) (k:V->AL):AL:=oo (gv x) fun a=>oo (gv y) fun b=>gen P (m a b) k
def jF (n:Int):V:= .int .i64 n
def binI (x:BinOp):Int->Int->(V->AL)->AL->AL:=BinOp.rec (motive:=fun _=>Int->Int->(V->AL)->AL->AL) (fun i j k _=>inR (i+j) fun n=>k (.int .i64 n)) (fun i j k _=>inR (i - j) fun n=>k (.int .i64 n)) (fun i j k _=>inR (i*j) fun n=>k (.int .i64 n)) (fun _ _ _ d=>d) (fun _ _ _ d=>d) (fun _ _ _ d=>d) (fun _ _ _ d=>d) (fun _ _ _ d=>d) (fun _ _ _ d=>d) (fun _ _ _ d=>d) (fun _ _ _ d=>d) (fun i j k _=>k (.bool (eqI i j))) (fun i j k _=>k (.bool (Bool.not (eqI i j)))) (fun i j k _=>k (.bool (ltI i j))) (fun i j k _=>k (.bool (Bool.not (ltI j i)))) (fun i j k _=>k (.bool (ltI j i))) (fun i j k _=>k (.bool (Bool.not (ltI i j)))) x
def eqN1:V->V->Option Bool
 | .nilp, .ptr _ _=>some false
 | .ptr _ _, .nilp=>some false
 | .ptr b o, .ptr c q=>match Nat.beq b c with
  | true=>some (Nat.beq o q)
  | false=>none
 | _,_=>none
def eqN2:V->V->Option Bool
 | .nils, .sl _ _ _ _=>some false
 | .nils, .so _ _ _ _=>some false
 | .sl _ _ _ _, .nils=>some false
 | .so _ _ _ _, .nils=>some false
 | _,_=>none
def eqN3:V->V->Option Bool
 | .nilm, .map _=>some false
 | .map _, .nilm=>some false
 | _,_=>none
def eqN4:V->V->Option Bool
 | .nilf, .fn _ _ _=>some false
 | .fn _ _ _, .nilf=>some false
 | _,_=>none
def eqN5:V->V->Option Bool
 | .nili, .iface _ _=>some false
 | .iface _ _, .nili=>some false
 | _,_=>none
def eqN (P:Program) (T:Nat) (a b:V):Option Bool:=match und P T with
 | some (.pointer el)=>match szT P el with
  | some (_+1)=>eqN1 a b
  | _=>none
 | some (.slice _)=>eqN2 a b
 | some (.map _ _)=>eqN3 a b
 | some (.func _ _ _)=>eqN4 a b
 | some (.interface _)=>eqN5 a b
 | _=>none
def eqK (x:BinOp):Bool->(V->AL)->AL:=BinOp.rec (motive:=fun _=>Bool->(V->AL)->AL) (fun _ _=> .fail) (fun _ _=> .fail) (fun _ _=> .fail) (fun _ _=> .fail) (fun _ _=> .fail) (fun _ _=> .fail) (fun _ _=> .fail) (fun _ _=> .fail) (fun _ _=> .fail) (fun _ _=> .fail) (fun _ _=> .fail) (fun r k=>k (.bool r)) (fun r k=>k (.bool (Bool.not r))) (fun _ _=> .fail) (fun _ _=> .fail) (fun _ _=> .fail) (fun _ _=> .fail) x
def binG (P:Program) (op:BinOp) (T:Nat) (x y:Operand) (a b:V) (k:V->AL):AL:=opt (eqN P T a b) (gen2 P (fun a b=>do eqGuard op T x y a b;binOp op T a b) a b k) fun r=>eqK op r k
def isI64 (k:IntKind):Bool:=match k with
 | .i64=>true
 | _=>false
def binB (op:BinOp) (u v:V) (k:V->AL) (d:AL):AL:=yF u (fun ku i=>yF v (fun kv j=>ife (isI64 ku) (ife (isI64 kv) (binI op i j k d) d) d) d) d
def hBin (op:BinOp) (T:Nat) (x y:Operand):H:=fun P _ e k _ _=>eB x y e fun u v=>binB op u v k (binG P op T x y u v k)
def pZ (x:Operand):H:=fun _ _ e k _ _=>cP x e k
def zX (c x y:Operand):H:=fun _ _ e k _ _=>eZ c x y e fun c x y=>asBool c (fun b=>ife b (k x) (k y)) .fail
def loadS (s:Option Nat) (b off:Nat) (k:V->AL):AL:=opt s (.rd1 b off k) fun n=>ife (Nat.beq n 0) (k (.agg [])) (.rd b off n fun l=>k (.agg l))
def aAI (t:Nat) (x:Operand):H:=fun P _ e k _ _=>cP x e fun v=>oo (shp P t) fun s=>wU v fun b off=>loadS s b off k
def yM (t:Nat) (x y:Operand):H:=fun P _ e k _ _=>eB x y e fun p v=>oo (szT P t) fun n=>wU p fun b off=>oo (vc v) fun c=>dM (Nat.beq (ln c 0) n) (ife (Nat.beq n 0) (k eX) (.wr b off c (k eX)))
def aAT (t:Nat):H:=fun P _ e k _ _=>oo (zer P t) fun z=>oo (vc z) fun c=> .new c t 0 fun b=>k (.ptr b 0)
def hBox (t:Nat) (x:Operand):H:=fun _ _ e k _ _=>cP x e fun v=>oo (vc v) fun c=> .new c t 0 fun b=>k (.ptr b 0)
def fldOf (P:Program) (t f:Nat):Option (Nat × Nat):=match und P t with
 | some (.struct fs)=>match nth fs.toList f with
  | some fd=>some (fd.offset,fd.type)
  | none=>none
 | _=>none
def fldA (P:Program) (t f:Nat):Option Nat:=match fldOf P t f with
 | some (o,ft)=>match szT P ft with
  | some n=>match Nat.blt 0 n with
   | true=>some o
   | false=>none
  | none=>none
 | none=>none
def aAk (t:Nat) (x:Operand) (f:Nat):H:=fun P _ e k _ _=>cP x e fun v=>oo (fldA P t f) fun o=>wU v fun b off=>fA (Nat.add off o) .fail fun n=>k (.ptr b n)
def partV (s:Option Nat) (off:Nat) (cs:List V) (k:V->AL):AL:=opt s (oo (nth cs off) k) fun n=>oo (tk n (dr off cs)) fun l=>k (.agg l)
def fldV (P:Program) (t f:Nat):Option (Nat × Option Nat):=match fldOf P t f with
 | some (o,ft)=>match shp P ft with
  | some s=>some (o,s)
  | none=>none
 | none=>none
def aAq (t:Nat) (x:Operand) (f:Nat):H:=fun P _ e k _ _=>cP x e fun v=>oo (fldV P t f) fun q=>asAgg v (fun cs=>partV q.2 q.1 cs k) .fail
def elOf (P:Program) (t:Nat):Option Nat:=match und P t with
 | some (.slice el)=>some el
 | _=>none
def arOf (P:Program) (t:Nat):Option (Nat × Nat):=match und P t with
 | some (.array n el)=>some (n,el)
 | _=>none
def ixOf (P:Program) (t:Nat):Option (Nat × Option Nat):=match und P t with
 | some (.slice el)=>match szT P el with
  | some es=>some (es,none)
  | none=>none
 | some (.array n el)=>match szT P el with
  | some es=>some (es,some n)
  | none=>none
 | _=>none
def at' (b off es len:Nat) (i:V) (k:V->AL):AL:=oo (qZ i) fun j=>dM (Nat.blt j len) (fA (Nat.add off (Nat.mul j es)) .fail fun n=>k (.ptr b n))
def aAf (t:Nat) (x i:Operand):H:=fun P _ e k _ _=>eB x i e fun v i=>oo (ixOf P t) fun q=>
 opt q.2 (asSl v (fun b off len _=>at' b off q.1 len i k) (fun b off len _=>at' b off q.1 len i k) .fail .fail) fun n=>wU v fun b off=>at' b off q.1 n i k
def hIdx (t:Nat) (x i:Operand):H:=fun P _ e k _ _=>eB x i e fun v i=>asAgg v (fun cs=>oo (arOf P t) fun q=>oo (szT P q.2) fun es=>oo (shp P q.2) fun s=>oo (qZ i) fun j=>dM (Nat.blt j q.1) (partV s (Nat.mul j es) cs k))
 (gen2 P (Instr.index t) v i k)
def hUn (op:UnOp) (_:Nat) (x:Operand):H:=fun P _ e k _ _=>cP x e fun v=>match op with
 | .not=>asBool v (fun b=>k (.bool (Bool.not b))) .fail
 | op=>gen1 P (Op.unary op) v k
def hNil (x:Operand):H:=fun _ _ e k _ _=>cP x e fun v=>noNil v (k v)
def hExt (x:Operand) (i:Nat):H:=fun _ _ e k _ _=>cP x e fun v=>asTup v fun l=>oo (nth l i) k
def noIf (P:Program) (t:Nat):Bool:=match und P t with
 | none=>false
 | some (.interface _)=>false
 | some _=>true
def hMkI (t:Nat) (x:Operand):H:=fun P _ e k _ _=>cP x e fun v=>dM (noIf P t) (k (.iface t v))
def fnOf (x:Fn):Option Nat:=Fn.rec (motive:=fun _=>Option Nat) (fun g=>some g) (fun _=>none) (fun _ _=>none) (fun _ _ _ _=>none) (fun _=>none) x
def hMkF (fn:Fn) (f c:Array Operand):H:=fun _ _ e k _ _=>oo (fnOf fn) fun g=>fJ f.toList e fun f=>fJ c.toList e fun c=>k (.fn g f c)
def okT (ok b:Bool) (v:V):V:=match ok with
 | true=> .tup [v, .bool b]
 | false=>v
def hTa (x:Operand) (_ T:Nat) (ok:Bool):H:=fun P _ e k _ _=>cP x e fun v=>dM (noIf P T) (asIf v (fun t w=>ife (Nat.beq t T) (k (okT ok true w)) (dM ok (oo (zer P T) fun z=>k (.tup [z, .bool false]))))
 (dM ok (oo (zer P T) fun z=>k (.tup [z, .bool false]))))
def plc (P:Program) (fs:List Field) (i:Nat):Option (Nat × Nat):=match nth fs i with
 | some f=>match szT P f.type with
  | some n=>some (f.offset,n)
  | none=>none
 | none=>none
def wD (pc:Nat->Option (Nat × Nat)) (ps:List (Nat × Operand)):List V->List V->Option (List V):=List.rec (fun _ c=>some c) (fun p _ ih vs c=>List.rec none (fun v r _=>Option.rec none (fun q=>Option.rec none (fun u=>Bool.rec none (Option.rec none (fun c'=>ih r c') (pl u q.1 c)) (Nat.beq (ln u 0) q.2)) (vc v)) (pc p.1)) vs) ps
def szs (P:Program):List Field->Bool
 | []=>true
 | f :: r=>match szT P f.type with
  | some _=>szs P r
  | none=>false
def plcOf (P:Program) (t:Nat):Option (Nat->Option (Nat × Nat)):=match und P t with
 | some (.struct fs)=>match szs P fs.toList with
  | true=>some (plc P fs.toList)
  | false=>none
 | some (.array _ el)=>match szT P el with
  | some es=>some fun i=>some (Nat.mul i es,es)
  | none=>none
 | _=>none
def aAu (t:Nat) (ps:Array (Nat × Operand)):H:=fun P _ e k _ _=>fJ (prt ps.toList) e fun vs=>oo (zer P t) fun z=>oo (plcOf P t) fun pc=>oo (asAgg z some none) fun z=>oo (wD pc ps.toList vs z) fun c=>k (.agg c)
def lim:Nat:=1048576
def vG (P:Program) (t:Nat):Option (Nat × Nat × List V):=match elOf P t with
 | some el=>match info P el with
  | some i=>match zer P el with
   | some z=>match vc z with
    | some c=>match Bool.and (Nat.beq (ln c 0) i.size) (Bool.and (Nat.ble i.size lim) (Nat.ble i.bytes lim))with
     | true=>some (el,i.size,c)
     | false=>none
    | none=>none
   | none=>none
  | none=>none
 | none=>none
def xH (t len:Nat) (ps:Array (Nat × Operand)):H:=fun P _ e k _ _=>fJ (prt ps.toList) e fun vs=>oo (vG P t) fun q=>
 dM (Nat.ble (Nat.mul len q.2.1) lim) (oo (wD (fun i=>some (Nat.mul i q.2.1,q.2.1)) ps.toList vs (rep q.2.2 len)) fun c=> .new c q.1 0 fun b=>k (.sl b 0 len len))
def hMks (t:Nat) (x y:Operand):H:=fun P _ e k _ _=>eB x y e fun l c=>oo (vG P t) fun q=>oo (qZ l) fun l=>oo (qZ c) fun c=>
 dM (Bool.and (Nat.ble l c) (Nat.ble c lim)) (.new (rep q.2.2 c) q.1 0 fun b=>k (.sl b 0 l c))
def isStr (P:Program) (t:Nat):Bool:=match und P t with
 | some .string=>true
 | _=>false
def ofB (x:Option V) (d:Nat) (f:Nat->AL):AL:=opt x (f d) fun v=>oo (qZ v) f
def slN (es b off cap l h m:Nat) (k:V->AL):AL:=dM (Bool.and (Nat.ble l h) (Bool.and (Nat.ble h m) (Nat.ble m cap))) (ife (Nat.beq m l) (k (.sl b off (Nat.sub h l) (Nat.sub m l)))
 (fA (Nat.add off (Nat.mul l es)) .fail fun o=>fA (Nat.sub h l) .fail fun n=>fA (Nat.sub m l) .fail fun c=>k (.sl b o n c)))
def slO (es b off len l h:Nat) (k:V->AL):AL:=dM (Bool.and (Nat.blt 0 es) (Bool.and (Nat.ble l h) (Bool.and (Nat.ble h len) (Bool.or (Nat.beq l 0) (Nat.blt l len)))))
 (fA (Nat.add off (Nat.mul l es)) .fail fun o=>fA (Nat.sub h l) .fail fun n=>k (.so b o n es))
def soOk (es b off len es0:Nat) (p:AL):AL:=dM (Bool.and (Nat.blt 0 es) (Nat.beq es0 es)) (.sz b fun cl _ op=>dM (Bool.and (Nat.beq op es) (Nat.ble (Nat.add off (Nat.mul len es)) cl)) p)
def hiOk (hi mx:Option V):Bool:=opt mx true fun _=>opt hi false fun _=>true
def xL (t:Nat) (x:Operand) (lo hi mx:Option Operand):H:=fun P _ e k _ _=>cP x e fun v=>zY lo e fun lo=>zY hi e fun hi=>zY mx e fun mx=>dM (hiOk hi mx) (match elOf P t with
 | some el=>oo (szT P el) fun es=>asSl v (fun b off len cap=>ofB lo 0 fun l=>ofB hi len fun h=>ofB mx cap fun m=>slN es b off cap l h m k)
  (fun b off len es0=>soOk es b off len es0 (ofB lo 0 fun l=>ofB hi len fun h=>opt mx (slO es b off len l h k) fun _=>ofB mx 0 fun m=>slN es b off len l h m k))
  (ofB lo 0 fun l=>ofB hi 0 fun h=>ofB mx 0 fun m=>dM (Nat.beq (Nat.add l (Nat.add h m)) 0) (k .nils)) .fail
 | none=>dM (isStr P t) (opt mx (yK v (fun s=>ofB lo 0 fun l=>ofB hi s.size fun h=>dM (Bool.and (Nat.ble l h) (Nat.ble h s.size)) (k (.str (s.extract l h)))) .fail) fun _=> .fail))
def aBc (s:ByteArray):List V:=s.data.toList.map fun b=> .int .u8 (Int.ofNat b.toNat)
def rdN (b off n:Nat) (k:List V->AL):AL:=ife (Nat.beq n 0) (k []) (.rd b off n k)
def cellsOf (es:Nat) (v:V) (f:Nat->List V->AL):AL:=asSl v (fun b off len _=>rdN b off (Nat.mul len es) (f len)) (fun b off len _=>rdN b off (Nat.mul len es) (f len)) (f 0 [])
 (yK v (fun s=>dM (Nat.beq es 1) (f s.size (aBc s))) .fail)
def grow (el es n:Nat) (c:List V) (k:V->AL):AL:=dM (Nat.ble n lim) (.new c el es fun b=>k (.so b 0 n es))
def appO (el es b off len n:Nat) (new:List V) (k:V->AL):AL:= .sz b fun cl t op=>dM (Bool.and (Nat.beq op es) (Nat.beq t el)) (fA (Nat.add len n) .fail fun ln'=>ife (Nat.ble (Nat.add off (Nat.mul ln' es)) cl)
 (.wr b (Nat.add off (Nat.mul len es)) new (k (.so b off ln' es)))
 (dM (Bool.and (Nat.beq off 0) (Nat.beq (Nat.mul len es) cl)) (rdN b 0 (Nat.mul len es) fun old=> .del b (grow el es ln' (ap old new) k))))
def appL (el es:Nat) (s:V) (n:Nat) (new:List V) (k:V->AL):AL:=ife (Nat.beq n 0) (asSl s (fun _ _ len cap=>dM (Nat.ble len cap) (k s)) (fun b off len es0=>soOk es b off len es0 (k s)) (k s) .fail)
 (asSl s (fun b off len cap=>fA (Nat.add len n) .fail fun ln'=>ife (Nat.ble ln' cap) (.wr b (Nat.add off (Nat.mul len es)) new (k (.sl b off ln' cap))) (rdN b off (Nat.mul len es) fun old=>grow el es ln' (ap old new) k))
  (fun b off len es0=>dM (Nat.beq es0 es) (appO el es b off len n new k)) (grow el es n new k) .fail)
def isInt (P:Program) (t:Nat):Bool:=match und P t with
 | some (.int _)=>true
 | none=>true
 | _=>false
def xO (c:Call):H:=fun P _ e k _ _=>fJ c.args.toList e fun vs=>match c.argTypes.toList,vs with
 | T :: U :: _,s :: x :: _=>oo (vG P T) fun q=>dM (Bool.and (Nat.blt 0 q.2.1) (Bool.not (isInt P U))) (cellsOf q.2.1 x fun n new=>appL q.1 q.2.1 s n new k)
 | _,_=> .fail
def mapK (x:Ob):(List Ent->Nat->AL)->AL:=Ob.rec (motive:=fun _=>(List Ent->Nat->AL)->AL) (fun es c=>fun f=>f es c) (fun _ _ _ _ _ _ _ _ _=>fun _=> .fail) (fun _=>fun _=> .fail) x
def hLen (c:Call):H:=fun P _ e k _ _=>fJ c.args.toList e fun vs=>match c.argTypes.toList,vs with
 | T :: _,v :: _=>match und P T with
  | some (.slice _)=>asSl v (fun _ _ len _=>k (jF (.ofNat len))) (fun _ _ len _=>k (jF (.ofNat len))) (k (jF (.ofNat 0))) .fail
  | some .string=>yK v (fun s=>k (jF (.ofNat s.size))) .fail
  | some (.map _ _)=>asMap v (fun b=> .getO b fun o=>mapK o (fun es _=>k (jF (.ofNat (ln es 0))))) (k (jF (.ofNat 0)))
  | some (.array n _)=>k (jF (.ofNat n))
  | _=> .fail
 | _,_=> .fail
def hMm (least:Bool) (c:Call):H:=fun _ _ e k _ _=>fJ c.args.toList e fun vs=>match vs with
 | [.int .i64 i, .int .i64 j]=>ife least (ife (ltI j i) (k (jF j)) (k (jF i))) (ife (ltI i j) (k (jF j)) (k (jF i)))
 | _=> .fail
def yZ (c:Call):H:=fun P _ e k _ _=>fJ c.args.toList e fun vs=>match c.argTypes.toList,vs with
 | T :: _,v :: _=>oo (vG P T) fun q=>asSl v (fun b off len _=>ife (Nat.beq len 0) (k eX) (.wr b off (rep q.2.2 len) (k eX))) (fun b off len _=>ife (Nat.beq len 0) (k eX) (.wr b off (rep q.2.2 len) (k eX))) (k eX) .fail
 | _,_=> .fail
def isKey (P:Program) (t:Nat):Option Bool:=match und P t with
 | some (.int _)=>some false
 | some .string=>some true
 | _=>none
def tK:V->V->Option Bool
 | .int .i64 a, .int .i64 b=>some (eqI a b)
 | .int .u8 a, .int .u8 b=>some (eqI a b)
 | .str a, .str b=>some (a==b)
 | _,_=>none
def keyOk (t:Bool) (v:V):Bool:=yF v (fun _ _=>Bool.not t) (yK v (fun _=>t) false)
def yC (x:V):List Ent->Option (Option V)
 | []=>some none
 | e :: es=>match tK x e.key with
  | some true=>some (some e.val)
  | some false=>yC x es
  | none=>none
def mapOf (P:Program) (t:Nat):Option (Nat × Bool):=match und P t with
 | some (.map kt el)=>match isKey P kt with
  | some b=>some (el,b)
  | none=>none
 | _=>none
def xJ (t:Nat) (x y:Operand) (ok:Bool):H:=fun P _ e k _ _=>eB x y e fun m x=>oo (mapOf P t) fun m'=>oo (zer P m'.1) fun z=>dM (keyOk m'.2 x) (asMap m
 (fun b=> .getO b fun o=>mapK o fun es _=>oo (yC x es) fun r=>opt r (k (okT ok false z)) fun v=>k (okT ok true v)) (k (okT ok false z)))
def setE (x v:V) (c:Nat):List Ent->Option (List Ent × Nat)
 | []=>some ([⟨x,v,c⟩],Nat.succ c)
 | e :: es=>match tK x e.key with
  | some true=>some (⟨x,v,e.born⟩ :: es,c)
  | some false=>match setE x v c es with
   | some (l,c')=>some (e :: l,c')
   | none=>none
  | none=>none
def hUpd (t:Nat) (x y z:Operand):H:=fun P _ e k _ _=>eZ x y z e fun m x v=>oo (mapOf P t) fun m'=>dM (keyOk m'.2 x) (asMap m
 (fun b=> .getO b fun o=>mapK o fun es c=>oo (setE x v c es) fun q=> .setO b (.map q.1 q.2) (k eX)) .fail)
def hMapN (_:Nat) (r:Option Operand):H:=fun _ _ _ k _ _=>opt r (.newO (.map [] 0) fun b=>k (.map b)) fun _=> .fail
def aAo (s t:Nat) (x:Operand):H:=fun P _ e k _ _=>cP x e fun v=>gen1 P (convert s t) v k
def dP:H:=fun _ _ _ _ _ _=> .fail
def opB (x:Builtin):Call->H:=Builtin.rec (motive:=fun _=>Call->H) (xO) (fun _=>dP) (yZ) (fun _=>dP) (fun _=>dP) (fun _=>dP) (fun _=>dP) (fun _=>dP) (hLen) (fun _=>dP) (hMm false) (hMm true) (fun _=>dP) (fun _=>dP) (fun _=>dP) (fun _=>dP) (fun _=>dP) (fun _=>dP) (fun _=>dP) (fun _=>dP) (fun _=>dP) (fun _=>dP) (fun _=>dP) (fun _=>dP) (fun _=>dP) (fun _=>dP) x
end
noncomputable section
def insE (d:Option Nat) (v:V) (e:Tr V) (n:Nat) (k:Tr V->AL):AL:=Option.rec (k e) (fun t=>Bool.rec .fail (pp e (some v) (pa t) k) (Nat.blt t n)) d
def acK {β:Type} (a:Ac) (f:Tr V->Nat->List Df->Option Nat->β):β:=Ac.rec f a
def insK (d:Option Nat) (a:Ac) (v:V) (k:Ac->AL):AL:=acK a fun e n ds ro=>insE d v e n fun e=>k ⟨e,n,ds,ro⟩
inductive FM where
 | ret
 | pan (ch:List PE)
def yE:FM->FM
 | .pan (⟨_,true⟩ :: _)=> .ret
 | u=>u
def aCV (u:FM) (ch:List PE):FM:=match u with
 | .pan old=> .pan (ap ch old)
 | .ret=> .pan ch
def rcv:FM->V × FM
 | .pan (⟨v,false⟩ :: eE)=>(v, .pan (⟨v,true⟩ :: eE))
 | u=>(.nili,u)
def bod (P:Program) (f:Nat):Option (Func × Code):=match fnAt P f with
 | none=>none
 | some fn=>match fn.body with
  | none=>none
  | some c=>match fn.name== "runtime.NumGoroutine" with
   | true=>none
   | false=>some (fn,c)
def aC4 (l:List V):Nat->Tr V->(Tr V->AL)->AL:=List.rec (fun _ e k=>k e) (fun v _ ih n e k=>pp e (some v) (pa n) fun e=>ih (Nat.succ n) e k) l
def res1 (P:Program) (e:Tr V) (r:ResultVar) (k:V->AL):AL:=match r with
 | .tmp t=>oo (gp e (pa t)) k
 | .cell t T=>oo (gp e (pa t)) fun v=>oo (shp P T) fun s=>wU v fun b off=>loadS s b off k
def resA (P:Program) (e:Tr V) (rs:List ResultVar):(List V->AL)->AL:=List.rec (fun k=>k []) (fun r _ ih k=>res1 P e r fun v=>ih fun vs=>k (v :: vs)) rs
def rB (l:List V):V:=match l with
 | [v]=>v
 | l=> .tup l
def after (x:X) (ds:List Df) (u:FM):Option FM:=match ds with
 | _ :: _=>none
 | []=>match x with
  | .normal=>some (yE u)
  | .ret=>some (yE u)
  | .panic ch=>some (aCV u ch)
  | .exit _=>none
def qO (o:Oper):Option Nat:=match o.guard with
 | some _=>none
 | none=>match o.op with
  | .call c=>match c.callee with
   | .builtin .recover=>match c.args.toList with
    | []=>o.dst
    | _=>none
   | _=>none
  | _=>none
def yQ (d:Nat) (o:Oper):Option Nat:=match o.guard with
 | some _=>none
 | none=>match o.op with
  | .assign (.tmp t)=>match Nat.beq t d with
   | true=>o.dst
   | false=>none
  | _=>none
def recB (c:Code):Option (Nat × Option Nat × Code):=match c with
 | .seq (.region _ ops false) y=>match ops.toList with
  | [o,p]=>match qO o with
   | some d=>match yQ d p with
    | some e=>some (d,some e,y)
    | none=>none
   | none=>none
  | [o]=>match qO o with
   | some d=>some (d,none,y)
   | none=>none
  | _=>none
 | _=>none
def aDR (fn:Func) (args:List V) (k:Ac->AL):AL:=dM (Nat.ble (ln args 0) fn.ntmps) (aC4 args 0 .leaf fun e=>k ⟨e,fn.ntmps,[],none⟩)
def noRes (l:List ResultVar):Bool:=match l with
 | []=>true
 | _ :: _=>false
def defer1 (P:Program) (ex:Ex) (d:Df) (u:FM) (k:FM->AL):AL:=match d with
 | .col r=> .getO r fun o=>match o with
  | .dfr true=> .setO r (.dfr false) (k u)
  | _=> .fail
 | .fn f args cap=>oo (bod P f) fun q=>dM (noRes q.1.results.toList) (aDR q.1 (ap args cap) fun a=>match recB q.2 with
  | some (d,e,y)=>insK (some d) a (rcv u).1 fun a=>insK e a (rcv u).1 fun a=>ex y a fun x a=>oo (after x a.ds (rcv u).2) k
  | none=>ex q.2 a fun x a=>oo (after x a.ds u) k)
def gone (P:Program) (fn:Func) (e:Tr V) (u:FM) (k:O->AL):AL:=match u with
 | .ret=>resA P e fn.results.toList fun l=>k (.val (rB l))
 | .pan ch=>k (.panic ch)
def lD (P:Program) (ex:Ex) (fn:Func) (e:Tr V) (k:O->AL) (ds:List Df):FM->AL:=List.rec (fun u=>gone P fn e u k) (fun d _ ih u=>defer1 P ex d u ih) ds
def left (x:X):Option FM:=X.rec (motive:=fun _=>Option FM) (some .ret) (fun _=>none) (some .ret) (fun ch=>some (.pan ch)) x
def left1 (P:Program) (ex:Ex) (fn:Func) (k:O->AL) (x:X) (a:Ac):AL:=oo (left x) fun u=>acK a fun e _ ds _=>lD P ex fn e k ds u
def vN (P:Program) (ex:Ex) (f:Nat) (args:List V) (k:O->AL):AL:=oo (bod P f) fun q=>aDR q.1 args fun a=>ex q.2 a (left1 P ex q.1 k)
def pendOf (x:X) (ds:List Df):Option (Option Code):=match ds with
 | _ :: _=>none
 | []=>match x with
  | .normal=>some none
  | .ret=>some (some .ret)
  | .exit id=>some (some (.exit id))
  | .panic _=>none
def putPs (ts:List Nat) (n:Nat):List V->Tr V->(Tr V->AL)->AL:=List.rec (fun vs e k=>List.rec (k e) (fun _ _ _=> .fail) vs) (fun t _ ih vs e k=>List.rec .fail (fun v r _=>dM (Nat.blt t n) (pp e (some v) (pa t) fun e=>ih r e k)) vs) ts
def stOf (j:Option Code):LoopState:=match j with
 | none=> .ready
 | some _=> .done
def aCo (ex:Ex) (l:Nat) (args:List V) (k:O->AL):AL:= .getO l fun o=>match o with
 | .loop .ready p f e n ps sg bd d=>putPs ps n args e fun e'=>ex sg ⟨e',n,[],some l⟩ fun x a=>match x with
  | .normal=> .getO l fun o=>match o with
   | .loop .ready p f e n ps sg' bd' d=> .setO l (.loop .busy p f e n ps sg' bd' d) (ex bd a fun x a=>oo (pendOf x a.ds) fun j=> .getO l fun o=>match o with
    | .loop _ _ f e n ps sg bd d=> .setO l (.loop (stOf j) j f e n ps sg bd d) (k (.val (.bool j.isNone)))
    | _=> .fail)
   | _=> .fail
  | _=> .fail
 | _=> .fail
def invokeA (P:Program) (ex:Ex) (args:List V) (k:O->AL) (v:V):AL:=asFn v (fun f first cap=>vN P ex f (ap first (ap args cap)) k) (fun l=>aCo ex l args k)
def aBi (P:Program) (t:Nat) (name:String):Option Nat:=match info P t with
 | some i=>match i.methods.find? (·.name==name)with
  | some m=>match m.path.toList with
   | []=>match m.func with
    | some (f,p)=>match und P t with
     | some (.pointer _)=>match p with
      | true=>some f
      | false=>none
     | some _=>match p with
      | true=>none
      | false=>some f
     | none=>none
    | none=>none
   | _=>none
  | none=>none
 | none=>none
def oOut (x:O):KV->(List PE->AL)->AL:=O.rec (motive:=fun _=>KV->(List PE->AL)->AL) (fun v=>fun k _=>k v) (fun ch=>fun _ kp=>kp ch) x
def aBk (f:Operand) (c:Call):H:=fun P ex e k kp _=>cP f e fun fv=>fJ c.args.toList e fun args=>invokeA P ex args (fun o=>oOut o k kp) fv
def hInv (x:Operand) (name:String) (c:Call):H:=fun P ex e k kp _=>cP x e fun v=>fJ c.args.toList e fun args=>asIf v (fun t w=>oo (aBi P t name) fun f=>vN P ex f (w :: args) fun o=>oOut o k kp) .fail
def hCal (x:Callee):Call->H:=Callee.rec (motive:=fun _=>Call->H) (fun f=>aBk f) (fun x name=>hInv x name) (fun b=>opB b) x
def hCall (c:Call):H:=hCal c.callee c
def valOf (x:Callee):Option Operand:=Callee.rec (motive:=fun _=>Option Operand) (fun f=>some f) (fun _ _=>none) (fun _=>none) x
def vH (c:Call):H:=fun _ _ e _ _ kd=>oo (valOf c.callee) fun f=>cP f e fun fv=>fJ c.args.toList e fun args=>asFn fv (fun g first cap=>kd (.fn g (ap first args) cap)) fun _=> .fail
def aBM (x:Operand):H:=fun _ _ e _ kp _=>cP x e fun v=>asIf v (fun t w=>kp [⟨.iface t w,false⟩]) .fail
def opH (x:Op):H:=Op.rec (motive:=fun _=>H) (fun x=>pZ x) (fun x=>pZ x) (fun c x y=>zX c x y) (fun t=>aAT t) (fun t x=>hBox t x) (fun t ps=>aAu t ps) (fun t n ps=>xH t n ps) (fun t x y z=>hUpd t x y z) (fun t x=>aAI t x) (fun t x y=>yM t x y) (fun _=>dP) (fun _=>dP) (fun x=>hNil x) (fun op t x y _=>hBin op t x y) (fun op t x=>hUn op t x) (fun s t x=>aAo s t x) (fun _ _=>dP) (fun t x=>hMkI t x) (fun fn f c=>hMkF fn f c) (fun t r=>hMapN t r) (fun _ _=>dP) (fun t x y=>hMks t x y) (fun t x lo hi mx=>xL t x lo hi mx) (fun t x f=>aAk t x f) (fun t x f=>aAq t x f) (fun t x i=>aAf t x i) (fun t x i=>hIdx t x i) (fun t x y ok=>xJ t x y ok) (fun t x y z=>hUpd t x y z) (fun _ _ _=>dP) (fun _ _ _ _=>dP) (fun _ _=>dP) (fun _ _=>dP) (fun _=>dP) (fun x t T ok=>hTa x t T ok) (fun x i=>hExt x i) (fun c=>hCall c) (fun _=>dP) (fun c=>vH c) (fun x=>aBM x) (fun _ _=>dP) (fun _ _ _=>dP) (fun _ _=>dP) x
def kM (ops:List Oper) (j:Nat):Option Nat:=opt (nth ops j) none fun o=>o.dst
def aDE (ops:List Oper) (j:Nat) (w:Bool) (e:Tr V) (yes no:AL):AL:=opt (kM ops j) no fun d=>oo (gp e (pa d)) fun v=>asBool v (fun b=>ife b (ife w yes no) (ife w no yes)) no
def fin (d:Option Nat) (e:Tr V) (n:Nat) (ds:List Df) (ro:Option Nat) (ih:Ac->KX->AL) (kx:KX) (v:V):AL:=insE d v e n fun e=>ih ⟨e,n,ds,ro⟩ kx
def pan (kx:KX) (a:Ac) (ch:List PE):AL:=kx (.panic ch) a
def dfr (d:Option Nat) (e:Tr V) (n:Nat) (ds:List Df) (ro:Option Nat) (ih:Ac->KX->AL) (kx:KX) (x:Df):AL:=opt ro (insE d eX e n fun e=>ih ⟨e,n,x :: ds,ro⟩ kx) fun _=> .fail
def opG (g:Option (Nat × Bool)) (all:List Oper) (e:Tr V) (yes no:AL):AL:=opt g yes fun g=>aDE all g.1 g.2 e yes no
def opO (all:List Oper) (P:Program) (ex:Ex) (o:Oper) (ih:Ac->KX->AL) (a:Ac) (k:KX):AL:=acK a fun e n ds ro=>opG o.guard all e (opH o.op P ex e (fin o.dst e n ds ro ih k) (pan k ⟨e,n,ds,ro⟩) (dfr o.dst e n ds ro ih k)) (fin o.dst e n ds ro ih k eX)
def opsA (all:List Oper) (P:Program) (ex:Ex) (ops:List Oper):Ac->KX->AL:=List.rec (fun a k=>k .normal a) (fun o _ ih=>opO all P ex o ih) ops
def bit (n:Nat):Nat:=Nat.shiftLeft 1 n
def has (m i:Nat):Bool:=Nat.beq (Nat.land (Nat.shiftRight m i) 1) 1
def dis (a b:Nat):Bool:=Nat.beq (Nat.land a b) 0
def opTmp:Operand->Nat
 | .tmp t=>bit t
 | _=>0
def oF:List Operand->Nat
 | []=>0
 | x :: r=>Nat.lor (opTmp x) (oF r)
def rS (ds:List Nat) (n:Nat) (l:List Edge):Option Nat:=List.rec (some 0) (fun e _ ih=>Option.rec none (fun m=>Bool.rec (some m) (Bool.rec none (Option.rec none (fun x=>fA (Nat.lor (Nat.lor (bit e.on) x) m) none some) (nth ds (Nat.sub (Nat.sub n 1) e.on))) (Nat.blt e.on n)) (Region.binds .any e)) ih) l
def qR:Option Nat->Nat
 | some t=>bit t
 | none=>0
def gBit (all:List Oper):Option (Nat × Bool)->Nat
 | none=>0
 | some (j,_)=>qR (kM all j)
structure Inf where
 anc:Nat
 tr:Nat
 tw:Nat
def plain?:Op->Bool
 | .defer _=>false
 | .panic _=>false
 | .select _ _=>false
 | _=>true
def infs (all:List Oper) (l:List Oper):List Nat->Nat->(List Inf->Option (List Inf))->Option (List Inf):=List.rec (fun _ _ k=>k []) (fun o _ ih ds n k=>Option.rec none (fun x=>Bool.rec none (fA (Nat.lor (oF o.op.operands.toList) (gBit all o.guard)) none fun tr=>fA (qR o.dst) none fun tw=>ih (x :: ds) (Nat.succ n) fun l=>k (⟨x,tr,tw⟩ :: l)) (plain? o.op)) (rS ds n o.after.toList)) l
def uP (x:Inf) (l:List Inf):Nat->Bool:=List.rec (fun _=>true) (fun y _ ih n=>Bool.rec (Bool.rec false (Bool.rec false (ih (Nat.sub n 1)) (dis y.tw x.tr)) (dis x.tw (Nat.lor y.tr y.tw))) (ih (Nat.sub n 1)) (has x.anc n)) l
def aAn (l:List Inf):Nat->List Inf->Bool:=List.rec (fun _ _=>true) (fun x _ ih n done=>Bool.rec false (ih (Nat.succ n) (x :: done)) (uP x done (Nat.sub n 1))) l
def drawn (ops:List Oper):Option (List Inf):=infs ops ops [] 0 fun l=>ife (aAn l 0 []) (some l) none
def fpAp (f g:Fp):Bool:=Fp.rec (fun b lo hi w g=>Fp.rec (fun b' lo' hi' w'=>Bool.rec true (Bool.rec (Bool.rec (Bool.rec (Bool.not w') false w) true (Nat.ble hi' lo)) true (Nat.ble hi lo')) (Nat.beq b b')) (fun n0 n1=>Bool.rec (Nat.ble n1 b) true (Nat.blt b n0)) g)
 (fun n0 n1 g=>Fp.rec (fun b _ _ _=>Bool.rec (Nat.ble n1 b) true (Nat.blt b n0)) (fun m0 m1=>Bool.rec (Nat.ble m1 n0) true (Nat.ble n1 m0)) g) f g
def ap1 (f:Fp) (l:List Fp):Bool:=List.rec true (fun g _ ih=>Bool.rec false ih (fpAp f g)) l
def apL (l m:List Fp):Bool:=List.rec true (fun f _ ih=>Bool.rec false ih (ap1 f m)) l
def apart (anc:Nat) (lg:List Fp) (l:List (Nat × List Fp)):Bool:=List.rec true (fun p _ ih=>Bool.rec (Bool.rec false ih (apL lg p.2)) ih (has anc p.1)) l
def retV (v:V):AL:= .ret (.val v)
def noPan (_:List PE):AL:= .fail
def noDfr (_:Df):AL:= .fail
def opD1 (all:List Oper) (P:Program) (ex:Ex) (o:Oper) (x:Inf) (i:Nat) (lg:List (Nat × List Fp)) (e:Tr V) (n:Nat) (ih:Nat->List (Nat × List Fp)->Tr V->AL):AL:=
 opG o.guard all e (.sub (opH o.op P ex e retV noPan noDfr) fun v l=>dM (apart x.anc l lg) (insE o.dst v e n (ih (Nat.succ i) ((i,l) :: lg)))) (insE o.dst eX e n (ih (Nat.succ i) lg))
def opD (all:List Oper) (P:Program) (ex:Ex) (o:Oper) (x:Inf) (ih:Nat->List (Nat × List Fp)->Ac->KX->AL) (i:Nat) (lg:List (Nat × List Fp)) (a:Ac) (k:KX):AL:=acK a fun e n ds ro=>opD1 all P ex o x i lg e n fun i lg e=>ih i lg ⟨e,n,ds,ro⟩ k
def opsD (all:List Oper) (P:Program) (ex:Ex) (ops:List Oper):List Inf->Nat->List (Nat × List Fp)->Ac->KX->AL:=List.rec (fun _ _ _ a k=>k .normal a) (fun o _ ih is=>List.rec (fun _ _ _ _=> .fail) (fun x is _=>opD all P ex o x (ih is)) is) ops
def aGX (ops:Array Oper) (draw:Bool) (P:Program) (ex:Ex) (a:Ac) (k:KX):AL:=ife draw (oo (drawn ops.toList) fun is=>opsD ops.toList P ex ops.toList is 0 [] a k) (opsA ops.toList P ex ops.toList a k)
def blkX (x:X):Nat->KX->Ac->AL:=X.rec (motive:=fun _=>Nat->KX->Ac->AL) (fun _ k=>k .normal) (fun i=>fun id k=>ife (Nat.beq i id) (k .normal) (k (.exit i))) (fun _ k=>k .ret) (fun ch=>fun _ k=>k (.panic ch)) x
def seqX (x:X):(Ac->KX->AL)->KX->Ac->AL:=X.rec (motive:=fun _=>(Ac->KX->AL)->KX->Ac->AL) (fun f k a=>f a k) (fun i=>fun _ k a=>k (.exit i) a) (fun _ k a=>k .ret a) (fun ch=>fun _ k a=>k (.panic ch) a) x
def condX (t f:Ac->KX->AL) (c:Operand) (a:Ac) (k:KX):AL:=cP c a.e fun v=>asBool v (fun b=>ife b t f) (fun _ _=> .fail) a k
def markA (a:Ac) (k:Nat->Ac->AL):AL:=match a with
 | ⟨e,n,ds,ro⟩=>opt ro (.newO (.dfr true) fun r=>k r ⟨e,n, .col r :: ds,ro⟩) fun l=> .getO l fun o=>match o with
  | .loop _ _ _ _ _ _ _ _ d=>k d ⟨e,n,ds,ro⟩
  | _=> .fail
def jumpX:Option Code->Option X
 | none=>some .normal
 | some .ret=>some .ret
 | some (.exit id)=>some (.exit id)
 | _=>none
def isVal (x:O):AL->(List PE->AL)->AL:=O.rec (motive:=fun _=>AL->(List PE->AL)->AL) (fun _=>fun p _=>p) (fun ch=>fun _ f=>f ch) x
def aHu (l:Nat) (k:X->AL):AL:= .getO l fun o=>match o with
 | .loop st p f e n ps sg bd d=>match st with
  | .busy=> .fail
  | _=> .setO l (.loop .exhausted p f e n ps sg bd d) (oo (jumpX p) k)
 | _=> .fail
def rangeA (f:Operand) (ps:Array Tmp) (sg bd:Code) (P:Program) (ex:Ex) (a:Ac) (k:KX):AL:=cP f a.e fun fv=>markA a fun d a=>
 .newO (.loop .ready none 0 a.e a.n ps.toList sg bd d) fun l=>asFn fv (fun g first cap=>vN P ex g (ap first (ap [.yld l] cap)) fun o=>isVal o (aHu l fun x=>k x a) (fun ch=>k (.panic ch) a)) fun _=> .fail
def rO (P:Program) (ex:Ex) (c:Code):Ac->KX->AL:=Code.rec (fun a k=>k .normal a) (fun _ ops d a k=>aGX ops d P ex a k) (fun _ _ ia ib a k=>ia a fun x=>seqX x ib k) (fun c _ _ it if_ a k=>condX it if_ c a k)
 (fun id _ ib a k=>ib a fun x=>blkX x id k) (fun b ib a k=>ib a fun x=>seqX x (ex (.loop b)) k) (fun f ps sg bd _ _ a k=>rangeA f ps sg bd P ex a k) (fun id a k=>k (.exit id) a)
 (fun _ _ _ _=> .fail) (fun _ a k=>k .normal a) (fun _ _ _=> .fail) (fun a k=>k .ret a) (fun _ _ _=> .fail) c
def exec (P:Program) (n:Nat):Ex:=Nat.rec (fun _ _ _=> .fail) (fun _ ex c=>rO P ex c) n
def run0 (P:Program) (n:Nat) (f:Nat):R:=run (vN P (exec P n) f [] .ret) .leaf 0 []
def okB (r:R) (b:Bool):Bool:=match r with
 | some (.val (.bool c),_)=>c==b
 | _=>false
end
noncomputable section
theorem aG0 (d n:Nat):paD (d+1) n=bif Nat.beq n 0 then .h else bif Nat.beq (n % 2) 1 then .l (paD d (n / 2)) else .r (paD d (n / 2 - 1)):=by
 show(Bool.rec (Bool.rec (Pa.r (paD d (n / 2 - 1))) (Pa.l (paD d (n / 2))) (Nat.beq (n % 2) 1)) Pa.h (Nat.beq n 0):Pa)=_
 cases Nat.beq n 0 <;> cases Nat.beq (n % 2) 1 <;> rfl
theorem sK {a b:Nat} (h:a≠b):Nat.beq a b=false:=by
 cases hb:Nat.beq a b with
 | false=>rfl
 | true=>exact absurd (a1F hb) h
theorem uX {a b:Nat} (h:a=b):Nat.beq a b=true:=by subst h;simp
theorem aDK:∀ (d n e m:Nat),n<d->m<e->paD d n=paD e m->n=m
 | 0,_,_,_,h,_,_=>by omega
 | _+1,_,0,_,_,h,_=>by omega
 | d+1,n,e+1,m,hn,hm,h=>by
  rw [aG0,aG0]at h;rcases a1G n with h0 | h0 <;> rcases a1G m with g0 | g0
  ·omega
  ·subst h0;rw [uX rfl,sK (by omega:m≠0)]at h;simp only [a2a,a1Z]at h;cases hb:Nat.beq (m % 2) 1 <;> rw [hb]at h <;> cases h
  ·subst g0;rw [uX rfl,sK (by omega:n≠0)]at h;simp only [a2a,a1Z]at h;cases hb:Nat.beq (n % 2) 1 <;> rw [hb]at h <;> cases h
  ·rw [sK (by omega:n≠0),sK (by omega:m≠0)]at h;simp only [a1Z]at h;by_cases h1:n % 2=1 <;> by_cases g1:m % 2=1
   ·rw [uX h1,uX g1]at h;simp only [a2a,Pa.l.injEq]at h;have:=aDK d (n / 2) e (m / 2) (by omega) (by omega) h
    omega
   ·rw [uX h1,sK g1]at h;cases h
   ·rw [sK h1,uX g1]at h;cases h
   ·rw [sK h1,sK g1]at h;simp only [a1Z,Pa.r.injEq]at h;have:=aDK d (n / 2 - 1) e (m / 2 - 1) (by omega) (by omega) h
    omega
theorem pa_inj {n m:Nat} (h:pa n=pa m):n=m:=aDK (n+1) n (m+1) m (by omega) (by omega) h
section
variable {α:Type}
theorem gp_l (l r:Tr α) (v:Option α) (p:Pa):gp (.node l v r) (.l p)=gp l p:=rfl
theorem gp_r (l r:Tr α) (v:Option α) (p:Pa):gp (.node l v r) (.r p)=gp r p:=rfl
def put (t:Tr α) (v:Option α) (p:Pa):Tr α:=pp t v p fun t=>t
theorem tH (v:Option α):∀ (p:Pa) {β:Type} (k:Tr α->β),one' v p k=k (one' v p fun t=>t)
 | .h,_,_=>rfl
 | .l p,_,k=>by
  show one' v p _=k (one' v p _)
  rw [tH v p,tH v p (fun t=>Tr.node t none .leaf)]
 | .r p,_,k=>by
  show one' v p _=k (one' v p _)
  rw [tH v p,tH v p (fun t=>Tr.node .leaf none t)]
theorem pp_k (v:Option α):∀ (t:Tr α) (p:Pa) {β:Type} (k:Tr α->β),pp t v p k=k (put t v p)
 | .leaf,p,_,k=>tH v p k
 | .node l x r, .h,_,k=>rfl
 | .node l x r, .l p,_,k=>by
  show pp l v p _=k (pp l v p _)
  rw [pp_k v l p,pp_k v l p (fun l'=>Tr.node l' x r)]
 | .node l x r, .r p,_,k=>by
  show pp r v p _=k (pp r v p _)
  rw [pp_k v r p,pp_k v r p (fun r'=>Tr.node l x r')]
theorem aB1 (v:Option α) (p:Pa):put (.leaf:Tr α) v (.l p)= .node (put .leaf v p) none .leaf:=by
 show one' v p _=_;rw [tH];rfl
theorem aBb (v:Option α) (p:Pa):put (.leaf:Tr α) v (.r p)= .node .leaf none (put .leaf v p):=by
 show one' v p _=_;rw [tH];rfl
theorem put_l (l r:Tr α) (x v:Option α) (p:Pa):put (.node l x r) v (.l p)= .node (put l v p) x r:=by
 show pp l v p _=_;rw [pp_k]
theorem put_r (l r:Tr α) (x v:Option α) (p:Pa):put (.node l x r) v (.r p)= .node l x (put r v p):=by
 show pp r v p _=_;rw [pp_k]
theorem yO (v:Option α):∀ (t:Tr α) (p:Pa),gp (put t v p) p=v
 | .leaf, .h=>rfl
 | .leaf, .l p=>by rw [aB1,gp_l];exact yO v .leaf p
 | .leaf, .r p=>by rw [aBb,gp_r];exact yO v .leaf p
 | .node l x r, .h=>rfl
 | .node l x r, .l p=>by rw [put_l,gp_l];exact yO v l p
 | .node l x r, .r p=>by rw [put_r,gp_r];exact yO v r p
theorem zC (v:Option α):∀ (t:Tr α) (p q:Pa),p≠q->gp (put t v p) q=gp t q
 | .leaf, .h, .h,h=>absurd rfl h
 | .leaf, .h, .l q,_=>rfl
 | .leaf, .h, .r q,_=>rfl
 | .leaf, .l p, .h,_=>by rw [aB1];rfl
 | .leaf, .l p, .l q,h=>by rw [aB1,gp_l,zC v .leaf p q (fun e=>h (e ▸ rfl))];rfl
 | .leaf, .l p, .r q,_=>by rw [aB1];rfl
 | .leaf, .r p, .h,_=>by rw [aBb];rfl
 | .leaf, .r p, .l q,_=>by rw [aBb];rfl
 | .leaf, .r p, .r q,h=>by rw [aBb,gp_r,zC v .leaf p q (fun e=>h (e ▸ rfl))];rfl
 | .node l x r, .h, .h,h=>absurd rfl h
 | .node l x r, .h, .l q,_=>rfl
 | .node l x r, .h, .r q,_=>rfl
 | .node l x r, .l p, .h,_=>by rw [put_l];rfl
 | .node l x r, .l p, .l q,h=>by rw [put_l,gp_l,gp_l,zC v l p q (fun e=>h (e ▸ rfl))]
 | .node l x r, .l p, .r q,_=>by rw [put_l];rfl
 | .node l x r, .r p, .h,_=>by rw [put_r];rfl
 | .node l x r, .r p, .l q,_=>by rw [put_r];rfl
 | .node l x r, .r p, .r q,h=>by rw [put_r,gp_r,gp_r,zC v r p q (fun e=>h (e ▸ rfl))]
def at_ (t:Tr α) (n:Nat):Option α:=gp t (pa n)
def pu (t:Tr α) (n:Nat) (v:Option α):Tr α:=put t v (pa n)
theorem gL (t:Tr α) (n m:Nat) (v:Option α):at_ (pu t n v) m=if m=n then v else at_ t m:=by
 by_cases h:m=n
 ·subst h;rw [a2f rfl];exact yO v t _
 ·rw [a2e h];exact zC v t _ _ fun e=>h (pa_inj e).symm
theorem at_same {t:Tr α} {n:Nat} {v:Option α}:at_ (pu t n v) n=v:=by rw [gL,a2f rfl]
theorem at_ne {t:Tr α} {n m:Nat} {v:Option α} (h:m≠n):at_ (pu t n v) m=at_ t m:=by rw [gL,a2e h]
theorem zO (n:Nat):at_ (.leaf:Tr α) n=none:=rfl
theorem oG {β:Type} (t:Tr α) (v:Option α) (n:Nat) (k:Tr α->β):pp t v (pa n) k=k (pu t n v):=pp_k v t _ k
theorem aCE:∀ (l:List α) (n:Nat) (t:Tr α) (m:Nat),at_ (vE l n t fun t=>t) m=if n<=m/\m<n+l.length then l[m - n]? else at_ t m
 | [],n,t,m=>by rw [a2e (by simp)];rfl
 | x :: l,n,t,m=>by
  show at_ (pp t (some x) (pa n) _) m=_
  rw [oG];show at_ (vE l (n+1) (pu t n (some x)) fun t=>t) m=_
  rw [aCE l (n+1) _ m];by_cases h1:n+1<=m/\m<n+1+l.length
  ·rw [a2f h1,a2f (by simp;omega),show m - n=(m - (n+1))+1 from by omega,a0F]
  ·rw [a2e h1,gL];by_cases h2:m=n
   ·subst h2;rw [a2f rfl,a2f (by simp)];simp
   ·rw [a2e h2,a2e (by simp;omega)]
end
section
variable {α:Type}
theorem mS:∀ (l:List α) (n:Nat),nth l n=l[n]?
 | [],_=>rfl
 | _ :: _,0=>rfl
 | _ :: l,n+1=>by rw [a0F,<- mS l n];rfl
theorem dr_eq:∀ (n:Nat) (l:List α),dr n l=l.drop n
 | 0,_=>rfl
 | _+1,[]=>rfl
 | n+1,_ :: l=>by rw [List.drop_succ_cons,<- dr_eq n l];rfl
theorem zE:∀ (n:Nat) (l r:List α),tk n l=some r ↔ n<=l.length/\r=l.take n
 | 0,l,r=>by show some []=some r ↔ _;simp [eq_comm]
 | n+1,[],r=>by show none=some r ↔ _;simp
 | n+1,x :: l,r=>by
  show(Option.rec none (fun t=>some (x :: t)) (tk n l):Option (List α))=some r ↔ _
  cases h:tk n l with
  | none=>
   have:¬ n<=l.length:=fun e=>by have:=(zE n l (l.take n)).2 ⟨e,rfl⟩;rw [h]at this;cases this
   simp;omega
  | some t=>
   have:=(zE n l t).1 h;simp only [a1W,a0U,List.take_succ_cons];constructor
   ·rintro rfl;exact⟨by omega,by rw [this.2]⟩
   ·rintro⟨_,rfl⟩;rw [this.2]
theorem jQ:∀ (l m:List α),ap l m=l++m
 | [],_=>rfl
 | x :: l,m=>by rw [a0w,<- jQ l m];rfl
theorem ln_eq:∀ (l:List α) (n:Nat),ln l n=l.length+n
 | [],n=>by simp;rfl
 | _ :: l,n=>by
  show ln l (n+1)=_
  rw [ln_eq l (n+1),a0U];omega
theorem ln0 (l:List α):ln l 0=l.length:=ln_eq l 0
theorem ov_eq:∀ (new c r:List α),ov new c=some r ↔ new.length<=c.length/\r=new++c.drop new.length
 | [],c,r=>by show some c=some r ↔ _;simp [eq_comm]
 | x :: l,[],r=>by show none=some r ↔ _;simp
 | x :: l,_ :: c,r=>by
  show(Option.rec none (fun t=>some (x :: t)) (ov l c):Option (List α))=some r ↔ _
  cases h:ov l c with
  | none=>
   have:¬ l.length<=c.length:=fun e=>by have:=(ov_eq l c _).2 ⟨e,rfl⟩;rw [h]at this;cases this
   simp only [a0U];constructor
   ·intro e;cases e
   ·rintro⟨e,_⟩;omega
  | some t=>
   have:=(ov_eq l c t).1 h;simp only [a1W,a0U,a0w,List.drop_succ_cons];constructor
   ·rintro rfl;exact⟨by omega,by rw [this.2]⟩
   ·rintro⟨_,rfl⟩;rw [this.2]
theorem uT (new:List α):∀ (off:Nat) (c r:List α),pl new off c=some r ↔ off+new.length<=c.length/\r=c.take off++new++c.drop (off+new.length)
 | 0,c,r=>by
  show ov new c=some r ↔ _
  rw [ov_eq];simp
 | off+1,[],r=>by show none=some r ↔ _;simp
 | off+1,x :: c,r=>by
  show(Option.rec none (fun t=>some (x :: t)) (pl new off c):Option (List α))=some r ↔ _
  cases h:pl new off c with
  | none=>
   have:¬ off+new.length<=c.length:=fun e=>by have:=(uT new off c _).2 ⟨e,rfl⟩;rw [h]at this;cases this
   constructor
   ·intro e;cases e
   ·rintro⟨e,_⟩;simp at e;omega
  | some t=>
   have:=(uT new off c t).1 h;have e:off+1+new.length=(off+new.length)+1:=by omega
   simp only [a1W,a0U,e,List.take_succ_cons,List.drop_succ_cons,a0w];constructor
   ·rintro rfl;exact⟨by omega,by rw [this.2]⟩
   ·rintro⟨_,rfl⟩;rw [this.2]
theorem aEa (l:List α):∀ n,rep l n=(List.replicate n l).flatten
 | 0=>rfl
 | n+1=>by
  show ap l (rep l n)=_
  rw [jQ,aEa l n,List.replicate_succ,List.flatten_cons]
theorem xY {β:Type} (n:Nat) (d:β) (f:Nat->β):fA n d f=f n:=rfl
end
end
noncomputable section
inductive CV where
 | val (v:V)
 | mark (n t op:Nat)
 | obj (o:Ob)
def cvB (k:Option Blk) (i:Nat):Option CV:=match k with
 | none=>none
 | some (.cells c t op)=>if i=c.length then some (.mark i t op) else c[i]?.map .val
 | some (.obj o)=>if i=0 then some (.obj o) else none
def cv (h:Tr Blk) (b i:Nat):Option CV:=cvB (at_ h b) i
theorem mL {k:Option Blk} {i:Nat} {v:V}:cvB k i=some (.val v) ↔ ∃ c t op,k=some (.cells c t op)/\c[i]? =some v:=by
 match k with
 | none=>simp [cvB]
 | some (.obj o)=>simp only [cvB];split <;> simp
 | some (.cells c t op)=>
  simp only [cvB,a1W,Blk.cells.injEq];constructor
  ·intro h;split at h
   ·cases h
   ·exact⟨c,t,op,⟨rfl,rfl,rfl⟩,by simpa using h⟩
  ·rintro⟨c',t',op',⟨rfl,rfl,rfl⟩,h⟩
   rw [a2e (by have:=(a0K.1 h).1;omega),h];rfl
theorem wW {k:Option Blk} {i n t op:Nat}:cvB k i=some (.mark n t op) ↔ ∃ c,k=some (.cells c t op)/\c.length=n/\i=n:=by
 match k with
 | none=>simp [cvB]
 | some (.obj o)=>simp only [cvB];split <;> simp
 | some (.cells c t' op')=>
  simp only [cvB,a1W,Blk.cells.injEq];constructor
  ·intro h;split at h
   ·cases h;exact⟨c,⟨rfl,rfl,rfl⟩,by omega,rfl⟩
   ·simp at h
  ·rintro⟨c',⟨rfl,rfl,rfl⟩,rfl,rfl⟩
   rw [a2f rfl]
theorem sM {k:Option Blk} {i:Nat} {o:Ob}:cvB k i=some (.obj o) ↔ k=some (.obj o)/\i=0:=by
 match k with
 | none=>simp [cvB]
 | some (.obj o')=>simp only [cvB,a1W,Blk.obj.injEq];split <;> simp_all
 | some (.cells c t' op')=>
  simp only [cvB,a1W];constructor
  ·intro h;split at h
   ·cases h
   ·simp at h
  ·rintro⟨h,_⟩;cases h
theorem aGz {k:Option Blk} (h:∀ i,cvB k i=none):k=none:=by
 match k with
 | none=>rfl
 | some (.obj o)=>have:=h 0;simp [cvB]at this
 | some (.cells c t op)=>have:=h c.length;simp [cvB]at this
theorem cvB_ext {k k':Option Blk} (h:∀ i,cvB k i=cvB k' i):k=k':=by
 match k with
 | none=>exact(aGz fun i=>(h i).symm).symm
 | some (.obj o)=>
  have:=(h 0).symm.trans (sM.2 ⟨rfl,rfl⟩);exact(sM.1 this).1.symm
 | some (.cells c t op)=>
  have h1:cvB (some (.cells c t op)) c.length=some (.mark c.length t op):=wW.2 ⟨c,rfl,rfl,rfl⟩;obtain⟨c',hk,hl,_⟩:=wW.1 ((h _).symm.trans h1);subst hk;have:c'=c:=by
   apply a0A
   intro i;by_cases hi:i<c.length
   ·have h2:cvB (some (.cells c t op)) i=some (.val c[i]):=mL.2 ⟨c,t,op,rfl,by simp [hi]⟩
    obtain⟨_,_,_,e,h3⟩:=mL.1 ((h _).symm.trans h2);cases e;rw [h3];simp [hi]
   ·rw [a0J (by omega),a0J (by omega)]
  rw [this]
def Fp.t:Fp->Nat->Nat->Prop
 | .cell b lo hi _,c,i=>c=b/\lo<=i/\i<hi
 | .fresh n0 n1,c,_=>n0<=c/\c<n1
def Fp.w:Fp->Nat->Nat->Prop
 | .cell b lo hi w,c,i=>w=true/\c=b/\lo<=i/\i<hi
 | .fresh n0 n1,c,_=>n0<=c/\c<n1
def T (l:List Fp) (b i:Nat):Prop:=∃ f∈l,f.t b i
def W (l:List Fp) (b i:Nat):Prop:=∃ f∈l,f.w b i
theorem w_t {f:Fp} {b i:Nat} (h:f.w b i):f.t b i:=by
 cases f with
 | cell=>exact h.2
 | fresh=>exact h
theorem W.t {l:List Fp} {b i:Nat} (h:W l b i):T l b i:=let ⟨f,m,x⟩:=h;⟨f,m,w_t x⟩
theorem T_app {l m:List Fp} {b i:Nat}:T (l++m) b i ↔ T l b i\/T m b i:=by simp [T,or_and_right,exists_or]
theorem aAh {l m:List Fp} {b i:Nat}:W (l++m) b i ↔ W l b i\/W m b i:=by simp [W,or_and_right,exists_or]
theorem aAC {f:Fp} {b i:Nat}:T [f] b i ↔ f.t b i:=by simp [T]
theorem wF {f:Fp} {b i:Nat}:W [f] b i ↔ f.w b i:=by simp [W]
theorem aEv {b i:Nat}:¬ W [] b i:=fun ⟨_,h,_⟩=>by cases h
def Agr (l:List Fp) (g h:Tr Blk):Prop:=∀ b i,T l b i->cv g b i=cv h b i
structure Dif (l:List Fp) (g h1 g1:Tr Blk):Prop where
 inn:∀ b i,W l b i->cv g1 b i=cv h1 b i
 out:∀ b i,¬ W l b i->cv g1 b i=cv g b i
abbrev Pr (α:Type):=Tr Blk->Nat->Option (α × Tr Blk × Nat × List Fp)
structure iU {α:Type} (pr:Pr α):Prop where
 mono:∀ {h nx x h1 n1 l},pr h nx=some (x,h1,n1,l)->nx<=n1
 out:∀ {h nx x h1 n1 l},pr h nx=some (x,h1,n1,l)->∀ b i,¬ W l b i->cv h1 b i=cv h b i
 loc:∀ {h nx x h1 n1 l},pr h nx=some (x,h1,n1,l)->∀ g,Agr l g h->∃ g1,pr g nx=some (x,g1,n1,l)/\Dif l g h1 g1
structure Loc (f:St):Prop where
 shape:∀ {h nx lg r},f h nx lg=some r->∃ l,r.2.log=l++lg/\nx<=r.2.nx/\(∀ b i,¬ W l b i->cv r.2.h b i=cv h b i) /\
  ∀ g lg2,Agr l g h->∃ g1,f g nx lg2=some (r.1,⟨g1,r.2.nx,l++lg2⟩)/\Dif l g r.2.h g1
theorem Agr.app1 {l m:List Fp} {g h:Tr Blk} (a:Agr (m++l) g h):Agr l g h:=fun b i t=>a b i (T_app.2 (.inr t))
theorem Loc.seq {α:Type} {pr:Pr α} {k:α->St} {f:St} (hp:iU pr) (hk:∀ x,Loc (k x))
 (hf:∀ h nx lg,f h nx lg=match pr h nx with
  | none=>none
  | some (x,h1,n1,l)=>k x h1 n1 (l++lg)):Loc f:=⟨fun {h nx lg r} e=>by
 rw [hf]at e
 cases hq:pr h nx with
 | none=>rw [hq]at e;cases e
 | some q=>
  obtain⟨x,h1,n1,l1⟩:=q;rw [hq]at e;obtain⟨l2,e1,e2,e3,e4⟩:=(hk x).shape e;refine⟨l2++l1,by rw [e1];simp,a1J (hp.mono hq) e2,fun b i hw=>?_,fun g lg2 ha=>?_⟩
  ·rw [e3 b i fun w=>hw (aAh.2 (.inl w)),hp.out hq b i fun w=>hw (aAh.2 (.inr w))]
  ·obtain⟨g1,f1,d1⟩:=hp.loc hq g ha.app1;have ha2:Agr l2 g1 h1:=fun b i t=>by
    by_cases hw:W l1 b i
    ·exact d1.inn b i hw
    ·rw [d1.out b i hw,ha b i (T_app.2 (.inl t)),hp.out hq b i hw]
   obtain⟨g2,f2,d2⟩:=e4 g1 (l1++lg2) ha2;refine⟨g2,by rw [hf,f1];simp only [];rw [f2,a0u],fun b i hw=>?_,fun b i hw=>?_⟩
   ·by_cases hw2:W l2 b i
    ·exact d2.inn b i hw2
    ·rw [d2.out b i hw2,e3 b i hw2];exact d1.inn b i ((aAh.1 hw).resolve_left hw2)
   ·rw [d2.out b i fun w=>hw (aAh.2 (.inl w)),d1.out b i fun w=>hw (aAh.2 (.inr w))]⟩
theorem tV {h:Tr Blk} {b c i:Nat} {k:Option Blk}:cv (pu h b k) c i=if c=b then cvB k i else cv h c i:=by
 unfold cv;rw [gL];split <;> rfl
def pRd (b off n:Nat):Pr (List V):=fun h nx=>match at_ h b with
 | some (.cells c _ _)=>match tk n (dr off c)with
  | some l=>if 0<n then some (l,h,nx,[.cell b off (off+n) false]) else none
  | none=>none
 | _=>none
theorem tk_dr {n off:Nat} {c l:List V}:tk n (dr off c)=some l ↔ (n=l.length/\(0<n->off+n<=c.length)/\∀ j,j<n->c[off+j]? =l[j]?):=by
 rw [dr_eq,zE]
 constructor
 ·rintro⟨h,rfl⟩
  simp only [a0V]at h;refine⟨by simp;omega,fun _=>by omega,fun j hj=>?_⟩
  rw [a0Q hj,a0H]
 ·rintro⟨h1,h2,h3⟩
  have hle:n<=(c.drop off).length:=by
   rcases a1G n with h0 | h0
   ·omega
   ·have:=h2 h0;simp;omega
  refine⟨hle,a0A fun j=>?_⟩
  by_cases hj:j<n
  ·rw [a0Q hj,a0H,h3 j hj]
  ·rw [a0J (by omega),a0J (by simp;omega)]
theorem pRd_loc (b off n:Nat):iU (pRd b off n):=by
 have inv:∀ {h nx x h1 n1 l},pRd b off n h nx=some (x,h1,n1,l)->h1=h/\n1=nx/\l=[.cell b off (off+n) false]/\0<n/\n=x.length/\∀ j,j<n->cv h b (off+j)=x[j]?.map .val:=by
  intro h nx x h1 n1 l e;unfold pRd at e;split at e
  ·rename_i c t op hb;split at e
   ·rename_i l' htk;split at e
    ·rename_i hn;cases e;obtain⟨e1,e2,e3⟩:=tk_dr.1 htk;refine⟨rfl,rfl,rfl,hn,e1,fun j hj=>?_⟩
     have hx:j<x.length:=by omega
     rw [a0I hx,a1U];exact mL.2 ⟨c,t,op,hb,by rw [e3 j hj,a0I hx]⟩
    ·cases e
   ·cases e
  ·cases e
 refine⟨fun e=>?_,fun e b i _=>?_,fun {h nx x h1 n1 l} e g ha=>?_⟩
 ·obtain⟨_,rfl,_⟩:=inv e;exact a1I _
 ·obtain⟨rfl,_⟩:=inv e;rfl
 ·obtain⟨rfl,rfl,rfl,hn,hx,hv⟩:=inv e;refine⟨g,?_,fun c i hw=>?_,fun _ _ _=>rfl⟩
  ·have hg:∀ j,j<n->cv g b (off+j)=x[j]?.map .val:=fun j hj=>by
    rw [ha b (off+j) (aAC.2 ⟨rfl,by omega,by omega⟩)];exact hv j hj
   have h0:=hg 0 hn;rw [a0I (by omega),a1U]at h0;obtain⟨c,t,op,hb,_⟩:=mL.1 h0;have:tk n (dr off c)=some x:=tk_dr.2 ⟨hx,fun _=>?_,fun j hj=>?_⟩
   ·unfold pRd;rw [hb];simp only [];rw [this];simp only [hn,if_true]
   ·have h1:=hg (n - 1) (by omega)
    rw [a0I (by omega),a1U]at h1;obtain⟨c',_,_,hb',h2⟩:=mL.1 h1;rw [hb]at hb';cases hb'
    have:=(a0K.1 h2).1;omega
   ·have h1:=hg j hj;rw [a0I (by omega),a1U]at h1;obtain⟨c',_,_,hb',h2⟩:=mL.1 h1;rw [hb]at hb';cases hb'
    rw [h2,a0I]
  ·rw [wF]at hw;cases hw.1
theorem aBn {g h:Tr Blk} {b:Nat} {k k':Option Blk} {l:List Fp} (hl:∀ c i,W l c i->c=b) (hi:∀ i,W l b i->cvB k' i=cvB k i) (ho:∀ i,¬ W l b i->cvB k' i=cv g b i):Dif l g (pu h b k) (pu g b k'):=
 ⟨fun c i hw=>by obtain rfl:=hl c i hw;rw [tV,tV,a2f rfl,a2f rfl];exact hi i hw,
  fun c i hw=>by rw [tV];split
                 ·rename_i e;subst e;exact ho i hw
                 ·rfl⟩
theorem aAO {g h:Tr Blk} {l:List Fp} (hl:∀ c i,¬ W l c i):Dif l g h g:=⟨fun c i hw=>absurd hw (hl c i),fun _ _ _=>rfl⟩
def pRd1 (b off:Nat):Pr V:=fun h nx=>match at_ h b with
 | some (.cells c _ _)=>match c[off]? with
  | some v=>some (v,h,nx,[.cell b off (off+1) false])
  | none=>none
 | _=>none
theorem yX {b off:Nat} {h:Tr Blk} {nx:Nat} {q:V × Tr Blk × Nat × List Fp}:pRd1 b off h nx=some q ↔ cv h b off=some (.val q.1)/\q.2=(h,nx,[.cell b off (off+1) false]):=by
 obtain⟨v,q⟩:=q
 unfold pRd1 cv
 rw [mL]
 constructor
 ·intro e;split at e
  ·rename_i c t op hb;split at e
   ·rename_i u hu;cases e;exact⟨⟨c,t,op,hb,hu⟩,rfl⟩
   ·cases e
  ·cases e
 ·rintro⟨⟨c,t,op,hb,hu⟩,rfl⟩
  rw [hb];simp only [];simp only at hu;rw [hu]
theorem aCx {b lo hi:Nat}:∀ c i,¬ W [.cell b lo hi false] c i:=fun c i hw=>by rw [wF]at hw;cases hw.1
theorem pRd1_loc (b off:Nat):iU (pRd1 b off):=by
 refine⟨fun e=>?_,fun e b i _=>?_,fun e g ha=>?_⟩
 ·have:=(yX.1 e).2;cases this;exact a1I _
 ·have:=(yX.1 e).2;cases this;rfl
 ·obtain⟨e1,e2⟩:=yX.1 e;cases e2;exact⟨g,yX.2 ⟨by rw [ha b off (aAC.2 ⟨rfl,by omega,by omega⟩)];exact e1,rfl⟩,aAO aCx⟩
def pWr (b off:Nat) (l:List V):Pr Unit:=fun h nx=>match at_ h b with
 | some (.cells c t op)=>match pl l off c with
  | some c'=>if 0<l.length then some ((),pu h b (some (.cells c' t op)),nx,[.cell b off (off+l.length) true]) else none
  | none=>none
 | _=>none
theorem over_get {c l:List V} {off i:Nat} (h:off+l.length<=c.length):(c.take off++l++c.drop (off+l.length))[i]? =if off<=i/\i<off+l.length then l[i - off]? else c[i]?:=by
 rw [a0u,List.getElem?_append,List.length_take,a1N (by omega)]
 by_cases h1:i<off
 ·rw [a2f h1,a2e (by omega),a0Q h1]
 ·rw [a2e h1,List.getElem?_append];by_cases h2:i - off<l.length
  ·rw [a2f h2,a2f (by omega)]
  ·rw [a2e h2,a2e (by omega),a0H];congr 1;omega
theorem over_len {c l:List V} {off:Nat} (h:off+l.length<=c.length):(c.take off++l++c.drop (off+l.length)).length=c.length:=by
 simp;omega
theorem aBN {c l:List V} {off t op i:Nat} (h:off+l.length<=c.length):cvB (some (.cells (c.take off++l++c.drop (off+l.length)) t op)) i =
 if off<=i/\i<off+l.length then l[i - off]?.map .val else cvB (some (.cells c t op)) i:=by
 simp only [cvB,over_len h,over_get h]
 by_cases h1:off<=i/\i<off+l.length
 ·rw [a2f h1,a2f h1,a2e (by omega)]
 ·rw [a2e h1,a2e h1]
theorem pWr_loc (b off:Nat) (l:List V):iU (pWr b off l):=by
 have inv:∀ {h nx q},pWr b off l h nx=some q ↔ ∃ c t op,at_ h b=some (.cells c t op)/\off+l.length<=c.length/\0<l.length/\q=((),pu h b (some (.cells (c.take off++l++c.drop (off+l.length)) t op)),nx,[.cell b off (off+l.length) true]):=by
  intro h nx q;unfold pWr;constructor
  ·intro e;split at e
   ·rename_i c t op hb;split at e
    ·rename_i c' hpl;split at e
     ·rename_i hn;cases e;obtain⟨h1,rfl⟩:=(uT l off c c').1 hpl;exact⟨c,t,op,hb,h1,hn,rfl⟩
     ·cases e
    ·cases e
   ·cases e
  ·rintro⟨c,t,op,hb,h1,hn,rfl⟩
   rw [hb];simp only [];rw [(uT l off c _).2 ⟨h1,rfl⟩];simp only [hn,if_true]
 have hw:∀ c i,W [.cell b off (off+l.length) true] c i ↔ c=b/\off<=i/\i<off+l.length:=fun c i=>by rw [wF];exact⟨fun h=>h.2,fun h=>⟨rfl,h⟩⟩
 refine⟨fun e=>?_,fun e c i hn=>?_,fun {h nx x h1 n1 m} e g ha=>?_⟩
 ·obtain⟨_,_,_,_,_,_,q⟩:=inv.1 e;cases q;exact a1I _
 ·obtain⟨cs,t,op,hb,hle,_,q⟩:=inv.1 e;cases q;rw [tV];split
  ·rename_i hc;subst hc
   rw [aBN hle,a2e fun hx=>hn ((hw _ _).2 ⟨rfl,hx⟩)];unfold cv;rw [hb]
  ·rfl
 ·obtain⟨cs,t,op,hb,hle,hpos,q⟩:=inv.1 e;cases q;have hcell:∀ j,off<=j->j<off+l.length->∃ c' t' op',at_ g b=some (.cells c' t' op')/\j<c'.length:=fun j h1 h2=>by
   have hx:cv h b j=some (.val (cs[j]'(by omega))):=mL.2 ⟨cs,t,op,hb,by simp⟩
   obtain⟨c',t',op',e1,e2⟩:=mL.1 ((ha b j (aAC.2 ⟨rfl,h1,h2⟩)).trans hx);exact⟨c',t',op',e1,(a0K.1 e2).1⟩
  obtain⟨c',t',op',hg,_⟩:=hcell off (by omega) (by omega)
  have hle':off+l.length<=c'.length:=by
   obtain⟨c'',_,_,hg',hl⟩:=hcell (off+l.length - 1) (by omega) (by omega)
   rw [hg]at hg';cases hg';omega
  refine⟨_,inv.2 ⟨c',t',op',hg,hle',hpos,rfl⟩,aBn (fun c i h=>((hw c i).1 h).1) (fun i h=>?_) fun i h=>?_⟩
  ·have:=((hw _ _).1 h).2;rw [aBN hle',aBN hle,a2f this,a2f this]
  ·rw [aBN hle',a2e fun hx=>h ((hw _ _).2 ⟨rfl,hx⟩)];unfold cv;rw [hg]
def pSz (b:Nat):Pr (Nat × Nat × Nat):=fun h nx=>match at_ h b with
 | some (.cells c t op)=>some ((c.length,t,op),h,nx,[.cell b c.length (c.length+1) false])
 | _=>none
theorem pSz_loc (b:Nat):iU (pSz b):=by
 have inv:∀ {h nx q},pSz b h nx=some q ↔ ∃ n t op,cv h b n=some (.mark n t op)/\q=((n,t,op),h,nx,[.cell b n (n+1) false]):=by
  intro h nx q;unfold pSz cv;constructor
  ·intro e;split at e
   ·rename_i c t op hb;cases e;exact⟨c.length,t,op,by rw [hb];exact wW.2 ⟨c,rfl,rfl,rfl⟩,rfl⟩
   ·cases e
  ·rintro⟨n,t,op,h1,rfl⟩
   obtain⟨c,hb,rfl,_⟩:=wW.1 h1;rw [hb]
 refine⟨fun e=>?_,fun e b i _=>?_,fun e g ha=>?_⟩
 ·obtain⟨_,_,_,_,q⟩:=inv.1 e;cases q;exact a1I _
 ·obtain⟨_,_,_,_,q⟩:=inv.1 e;cases q;rfl
 ·obtain⟨n,t,op,h1,q⟩:=inv.1 e;cases q;exact⟨g,inv.2 ⟨n,t,op,by rw [ha b n (aAC.2 ⟨rfl,by omega,by omega⟩)];exact h1,rfl⟩,aAO aCx⟩
def jH (x:Blk):Pr Nat:=fun h nx=>match at_ h nx with
 | none=>some (nx,pu h nx (some x),nx+1,[.fresh nx (nx+1)])
 | some _=>none
theorem aEt (x:Blk):iU (jH x):=by
 have inv:∀ {h nx q},jH x h nx=some q ↔ at_ h nx=none/\q=(nx,pu h nx (some x),nx+1,[.fresh nx (nx+1)]):=by
  intro h nx q;unfold jH;constructor
  ·intro e;split at e
   ·rename_i hb;cases e;exact⟨hb,rfl⟩
   ·cases e
  ·rintro⟨h1,rfl⟩;rw [h1]
 have hw:∀ {nx c i},W [.fresh nx (nx+1)] c i ↔ c=nx:=fun {nx c i}=>by rw [wF];show _/\_ ↔ _;omega
 refine⟨fun e=>?_,fun e c i hn=>?_,fun {h nx y h1 n1 m} e g ha=>?_⟩
 ·obtain⟨_,q⟩:=inv.1 e;cases q;omega
 ·obtain⟨_,q⟩:=inv.1 e;cases q;rw [tV,a2e fun h=>hn (hw.2 h)]
 ·obtain⟨h0,q⟩:=inv.1 e;cases q;have:at_ g nx=none:=aGz fun i=>by
   have:=ha nx i (W.t (hw.2 rfl));unfold cv at this;rw [this,h0];rfl
  exact⟨_,inv.2 ⟨this,rfl⟩,aBn (fun c i h=>hw.1 h) (fun _ _=>rfl) fun i h=>absurd (hw.2 rfl) h⟩
def pDel (b:Nat):Pr Unit:=fun h nx=>match at_ h b with
 | some (.cells c _ _)=>some ((),pu h b none,nx,[.cell b 0 (c.length+1) true])
 | _=>none
theorem aH4 {c:List V} {t op i:Nat} (h:c.length<i):cvB (some (.cells c t op)) i=none:=by
 simp only [cvB];rw [a2e (by omega),a0J (by omega)];rfl
theorem pDel_loc (b:Nat):iU (pDel b):=by
 have inv:∀ {h nx q},pDel b h nx=some q ↔ ∃ c t op,at_ h b=some (.cells c t op)/\q=((),pu h b none,nx,[.cell b 0 (c.length+1) true]):=by
  intro h nx q;unfold pDel;constructor
  ·intro e;split at e
   ·rename_i c t op hb;cases e;exact⟨c,t,op,hb,rfl⟩
   ·cases e
  ·rintro⟨c,t,op,h1,rfl⟩;rw [h1]
 have hw:∀ {n c i},W [.cell b 0 (n+1) true] c i ↔ c=b/\i<=n:=fun {n c i}=>by rw [wF];show _/\_/\_/\_ ↔ _;simp;omega
 refine⟨fun e=>?_,fun e c i hn=>?_,fun {h nx y h1 n1 m} e g ha=>?_⟩
 ·obtain⟨_,_,_,_,q⟩:=inv.1 e;cases q;exact a1I _
 ·obtain⟨cs,t,op,hb,q⟩:=inv.1 e;cases q;rw [tV];split
  ·rename_i hc;subst hc
   have:cs.length<i:=by
    rcases a1L cs.length i with h | h
    ·exact h
    ·exact absurd (hw.2 ⟨rfl,h⟩) hn
   unfold cv;rw [hb,aH4 this];rfl
  ·rfl
 ·obtain⟨cs,t,op,hb,q⟩:=inv.1 e;cases q;have h1:cv h b cs.length=some (.mark cs.length t op):=wW.2 ⟨cs,hb,rfl,rfl⟩;obtain⟨c',hg,hl,_⟩:=wW.1 ((ha b _ (W.t (hw.2 ⟨rfl,a1I _⟩))).trans h1);refine⟨_,inv.2 ⟨c',t,op,hg,by rw [hl]⟩,aBn (fun c i h=>(hw.1 h).1) (fun _ _=>rfl) fun i h=>?_⟩
  have:c'.length<i:=by
   rcases a1L c'.length i with h' | h'
   ·exact h'
   ·exact absurd (hw.2 ⟨rfl,by omega⟩) h
  unfold cv;rw [hg,aH4 this];rfl
def qQ (b:Nat):Pr Ob:=fun h nx=>match at_ h b with
 | some (.obj o)=>some (o,h,nx,[.cell b 0 1 false])
 | _=>none
theorem aK2 (b:Nat):iU (qQ b):=by
 have inv:∀ {h nx q},qQ b h nx=some q ↔ cv h b 0=some (.obj q.1)/\q.2=(h,nx,[.cell b 0 1 false]):=by
  intro h nx q;obtain⟨o,q⟩:=q;unfold qQ cv;rw [sM];constructor
  ·intro e;split at e
   ·rename_i o' hb;cases e;exact⟨⟨hb,rfl⟩,rfl⟩
   ·cases e
  ·rintro⟨⟨h1,_⟩,rfl⟩;rw [h1]
 refine⟨fun e=>?_,fun e b i _=>?_,fun e g ha=>?_⟩
 ·have:=(inv.1 e).2;cases this;exact a1I _
 ·have:=(inv.1 e).2;cases this;rfl
 ·obtain⟨e1,e2⟩:=inv.1 e;cases e2;exact⟨g,inv.2 ⟨by rw [ha b 0 (aAC.2 ⟨rfl,by omega,by omega⟩)];exact e1,rfl⟩,aAO aCx⟩
def sD (b:Nat) (o:Ob):Pr Unit:=fun h nx=>match at_ h b with
 | some (.obj _)=>some ((),pu h b (some (.obj o)),nx,[.cell b 0 1 true])
 | _=>none
theorem aJC (b:Nat) (o:Ob):iU (sD b o):=by
 have inv:∀ {h nx q},sD b o h nx=some q ↔ (∃ o',cv h b 0=some (.obj o'))/\q=((),pu h b (some (.obj o)),nx,[.cell b 0 1 true]):=by
  intro h nx q;unfold sD cv;constructor
  ·intro e;split at e
   ·rename_i o' hb;cases e;exact⟨⟨o',sM.2 ⟨hb,rfl⟩⟩,rfl⟩
   ·cases e
  ·rintro⟨⟨o',h1⟩,rfl⟩;rw [(sM.1 h1).1]
 have hw:∀ {c i},W [.cell b 0 1 true] c i ↔ c=b/\i=0:=fun {c i}=>by rw [wF];show _/\_/\_/\_ ↔ _;simp
 have far:∀ (o:Ob) i,i≠0->cvB (some (.obj o)) i=none:=fun o i h=>by simp [cvB,h]
 refine⟨fun e=>?_,fun e c i hn=>?_,fun {h nx y h1 n1 m} e g ha=>?_⟩
 ·obtain⟨_,q⟩:=inv.1 e;cases q;exact a1I _
 ·obtain⟨⟨o',h0⟩,q⟩:=inv.1 e;cases q;rw [tV];split
  ·rename_i hc;subst hc
   have:i≠0:=fun e=>hn (hw.2 ⟨rfl,e⟩)
   unfold cv;rw [(sM.1 h0).1,far _ _ this,far _ _ this]
  ·rfl
 ·obtain⟨⟨o',h0⟩,q⟩:=inv.1 e;cases q;have hg:=(ha b 0 (W.t (hw.2 ⟨rfl,rfl⟩))).trans h0;refine⟨_,inv.2 ⟨⟨o',hg⟩,rfl⟩,aBn (fun c i h=>(hw.1 h).1) (fun _ _=>rfl) fun i h=>?_⟩
  have:i≠0:=fun e=>h (hw.2 ⟨rfl,e⟩)
  unfold cv;rw [(sM.1 hg).1,far _ _ this,far _ _ this]
theorem aDT {n0 n1:Nat} {f:Fp}:∀ {l:List Fp},f∈l->f∈eE n0 n1 l\/∀ b i,f.t b i->n0<=b/\b<n1
 | [],h=>by cases h
 | g :: l,h=>by
  have key:(eE n0 n1 (g :: l)=g :: eE n0 n1 l)\/(eE n0 n1 (g :: l)=eE n0 n1 l/\∀ b i,g.t b i->n0<=b/\b<n1):=by
   cases g with
   | cell b lo hi w=>
    have e:eE n0 n1 (.cell b lo hi w :: l)=bif Nat.blt b n0 then .cell b lo hi w :: eE n0 n1 l else bif Nat.blt b n1 then eE n0 n1 l else .cell b lo hi w :: eE n0 n1 l:=by
     show(Bool.rec (Bool.rec (Fp.cell b lo hi w :: eE n0 n1 l) (eE n0 n1 l) (Nat.blt b n1)) (Fp.cell b lo hi w :: eE n0 n1 l) (Nat.blt b n0):List Fp)=_
     cases Nat.blt b n0 <;> cases Nat.blt b n1 <;> rfl
    rw [e];cases h1:Nat.blt b n0 with
    | true=>exact .inl rfl
    | false=>
     cases h2:Nat.blt b n1 with
     | false=>exact .inl rfl
     | true=>
      refine .inr ⟨rfl,fun c i hc=>?_⟩
      obtain⟨rfl,_⟩:=hc;have h3:¬ c<n0:=fun hlt=>by rw [(a1E ▸ hlt:Nat.blt c n0=true)]at h1;cases h1
      exact⟨by omega,by rw [a1E]at h2;exact h2⟩
   | fresh m0 m1=>
    have e:eE n0 n1 (.fresh m0 m1 :: l)=bif Nat.ble n0 m0 then(bif Nat.ble m1 n1 then eE n0 n1 l else .fresh m0 m1 :: eE n0 n1 l) else .fresh m0 m1 :: eE n0 n1 l:=by
     show(Bool.rec (Fp.fresh m0 m1 :: eE n0 n1 l) (Bool.rec (Fp.fresh m0 m1 :: eE n0 n1 l) (eE n0 n1 l) (Nat.ble m1 n1)) (Nat.ble n0 m0):List Fp)=_
     cases Nat.ble n0 m0 <;> cases Nat.ble m1 n1 <;> rfl
    rw [e];cases h1:Nat.ble n0 m0 with
    | false=>exact .inl rfl
    | true=>
     cases h2:Nat.ble m1 n1 with
     | false=>exact .inl rfl
     | true=>
      refine .inr ⟨rfl,fun c i hc=>?_⟩
      have:=a1H h1;have:=a1H h2;have:m0<=c/\c<m1:=hc;omega
  rcases a1i.1 h with rfl | h
  ·rcases key with k | k
   ·exact .inl (by rw [k];exact .head _)
   ·exact .inr k.2
  ·rcases aDT h with o | o
   ·rcases key with k | k
    ·exact .inl (by rw [k];exact .tail _ o)
    ·exact .inl (by rw [k.1];exact o)
   ·exact .inr o
def lI (p:St):Pr (V × List Fp):=fun h nx=>match p h nx []with
 | some (.val v,s)=>some ((v, .fresh nx s.nx :: eE nx s.nx s.log),s.h,s.nx, .fresh nx s.nx :: eE nx s.nx s.log)
 | _=>none
theorem aE6 {p:St} (hp:Loc p):iU (lI p):=by
 have inv:∀ {h nx q},lI p h nx=some q ↔ ∃ v s,p h nx []=some (.val v,s)/\q=((v, .fresh nx s.nx :: eE nx s.nx s.log),s.h,s.nx, .fresh nx s.nx :: eE nx s.nx s.log):=by
  intro h nx q;unfold lI;constructor
  ·intro e;split at e
   ·rename_i v s hs;cases e;exact⟨v,s,hs,rfl⟩
   ·cases e
  ·rintro⟨v,s,h1,rfl⟩;rw [h1]
 have sub:∀ {n0 n1 l b i},T l b i->T (.fresh n0 n1 :: eE n0 n1 l) b i:=fun {n0 n1 l b i} ⟨f,hf,ht⟩=>by
  rcases aDT hf with h | h
  ·exact⟨f, .tail _ h,ht⟩
  ·exact⟨_, .head _,h b i ht⟩
 have subw:∀ {n0 n1 l b i},W l b i->W (.fresh n0 n1 :: eE n0 n1 l) b i:=fun {n0 n1 l b i} ⟨f,hf,ht⟩=>by
  rcases aDT hf with h | h
  ·exact⟨f, .tail _ h,ht⟩
  ·exact⟨_, .head _,h b i (w_t ht)⟩
 refine⟨fun e=>?_,fun e b i hn=>?_,fun {h nx y h1 n1 m} e g ha=>?_⟩
 ·obtain⟨v,s,h1,q⟩:=inv.1 e;cases q;obtain⟨l,_,h2,_⟩:=hp.shape h1;exact h2
 ·obtain⟨v,s,h1,q⟩:=inv.1 e;cases q;obtain⟨l,h0,_,h3,_⟩:=hp.shape h1;simp only [a0v]at h0;subst h0;exact h3 b i fun w=>hn (subw w)
 ·obtain⟨v,s,h1,q⟩:=inv.1 e;cases q;obtain⟨l,h0,_,h3,h4⟩:=hp.shape h1;simp only [a0v]at h0;subst h0;obtain⟨g1,f1,d1⟩:=h4 g [] fun b i t=>ha b i (sub t)
  simp only [a0v]at f1;refine⟨g1,inv.2 ⟨v,_,f1,rfl⟩,fun b i hw=>?_,fun b i hw=>d1.out b i fun w=>hw (subw w)⟩
  by_cases hw':W s.log b i
  ·exact d1.inn b i hw'
  ·rw [d1.out b i hw',ha b i hw.t,h3 b i hw']
theorem ifN_eq {β:Type} (a b:Nat) (d p:β):ifN (Nat.blt a b) d p=if a<b then p else d:=by
 cases h:Nat.blt a b with
 | true=>rw [a1E]at h;rw [a2f h];rfl
 | false=>rw [a2e fun e=>by rw [(a1E ▸ e:Nat.blt a b=true)]at h;cases h];rfl
section
variable {α:Type} (h:Tr Blk) (nx:Nat) (lg:List Fp)
def thn (pr:Pr α) (ih:α->St):St:=fun h nx lg=>match pr h nx with
 | none=>none
 | some (x,h1,n1,l)=>ih x h1 n1 (l++lg)
theorem rRd_eq (b off n:Nat) (ih:List V->St):rRd b off n ih h nx lg=thn (pRd b off n) ih h nx lg:=by
 unfold rRd thn pRd at_
 cases gp h (pa b)with
 | none=>rfl
 | some x=>cases x with
  | obj o=>rfl
  | cells c t op=>
   show opt (tk n (dr off c)) none _=_
   simp only [];cases tk n (dr off c)with
   | none=>rfl
   | some l=>
    show ifN (Nat.blt 0 n) none _=_
    rw [ifN_eq];by_cases hn:0<n
    ·simp only [a2f hn];rfl
    ·simp only [a2e hn]
theorem rRd1_eq (b off:Nat) (ih:V->St):rRd1 b off ih h nx lg=thn (pRd1 b off) ih h nx lg:=by
 unfold rRd1 thn pRd1 at_
 cases gp h (pa b)with
 | none=>rfl
 | some x=>cases x with
  | obj o=>rfl
  | cells c t op=>
   show opt (nth c off) none _=_
   rw [mS];simp only [];cases c[off]? <;> rfl
theorem rWr_eq (b off:Nat) (l:List V) (ih:St):rWr b off l ih h nx lg=thn (pWr b off l) (fun _=>ih) h nx lg:=by
 unfold rWr thn pWr at_
 cases gp h (pa b)with
 | none=>rfl
 | some x=>cases x with
  | obj o=>rfl
  | cells c t op=>
   show opt (pl l off c) none _=_
   simp only [];cases pl l off c with
   | none=>rfl
   | some c'=>
    show pp h _ (pa b) _=_
    rw [oG,ifN_eq,ln0];by_cases hn:0<l.length
    ·simp only [a2f hn];rfl
    ·simp only [a2e hn]
theorem rSz_eq (b:Nat) (ih:Nat->Nat->Nat->St):rSz b ih h nx lg=thn (pSz b) (fun x=>ih x.1 x.2.1 x.2.2) h nx lg:=by
 unfold rSz thn pSz at_
 cases gp h (pa b)with
 | none=>rfl
 | some x=>cases x with
  | obj o=>rfl
  | cells c t op=>
   show fA (ln c 0) none (fun n=>ih n t op h nx (.cell b n (Nat.succ n) false :: lg))=_
   rw [xY,ln0];rfl
theorem aFi (x:Blk) (ih:Nat->St):rNew x ih h nx lg=thn (jH x) ih h nx lg:=by
 unfold rNew thn jH
 rw [xY]
 show opt (at_ h nx) _ _=_
 cases at_ h nx with
 | none=>
  show pp h _ (pa nx) _=_
  rw [oG];rfl
 | some x=>rfl
theorem rDel_eq (b:Nat) (ih:St):rDel b ih h nx lg=thn (pDel b) (fun _=>ih) h nx lg:=by
 unfold rDel thn pDel at_
 cases gp h (pa b)with
 | none=>rfl
 | some x=>cases x with
  | obj o=>rfl
  | cells c t op=>
   show pp h none (pa b) _=_
   rw [oG,ln0];rfl
theorem rGetO_eq (b:Nat) (ih:Ob->St):rGetO b ih h nx lg=thn (qQ b) ih h nx lg:=by
 unfold rGetO thn qQ at_
 cases gp h (pa b)with
 | none=>rfl
 | some x=>cases x with
  | obj o=>rfl
  | cells c t op=>rfl
theorem rSetO_eq (b:Nat) (o:Ob) (ih:St):rSetO b o ih h nx lg=thn (sD b o) (fun _=>ih) h nx lg:=by
 unfold rSetO thn sD at_
 cases gp h (pa b)with
 | none=>rfl
 | some x=>cases x with
  | obj o'=>
   show pp h _ (pa b) _=_
   rw [oG];rfl
  | cells c t op=>rfl
theorem rSub_eq (p:St) (ih:V->List Fp->St):rSub p ih h nx lg=thn (lI p) (fun x=>ih x.1 x.2) h nx lg:=by
 unfold rSub rSub1 thn lI
 cases p h nx []with
 | none=>rfl
 | some r=>
  obtain⟨o,s⟩:=r;cases o with
  | panic ch=>rfl
  | val v=>simp only [];rw [jQ];rfl
end
theorem aCU (b off n:Nat) (k:List V->AL):run (.rd b off n k)=thn (pRd b off n) fun x=>run (k x):=funext fun h=>funext fun nx=>funext fun lg=>rRd_eq h nx lg b off n fun x=>run (k x)
theorem aGk (b off:Nat) (k:V->AL):run (.rd1 b off k)=thn (pRd1 b off) fun x=>run (k x):=funext fun h=>funext fun nx=>funext fun lg=>rRd1_eq h nx lg b off fun x=>run (k x)
theorem aAG (b off:Nat) (l:List V) (k:AL):run (.wr b off l k)=thn (pWr b off l) fun _=>run k:=funext fun h=>funext fun nx=>funext fun lg=>rWr_eq h nx lg b off l (run k)
theorem aCn (b:Nat) (k:Nat->Nat->Nat->AL):run (.sz b k)=thn (pSz b) fun x=>run (k x.1 x.2.1 x.2.2):=funext fun h=>funext fun nx=>funext fun lg=>rSz_eq h nx lg b fun x y z=>run (k x y z)
theorem aBD (c:List V) (t op:Nat) (k:Nat->AL):run (.new c t op k)=thn (jH (.cells c t op)) fun x=>run (k x):=funext fun h=>funext fun nx=>funext fun lg=>aFi h nx lg _ fun x=>run (k x)
theorem aGc (b:Nat) (k:AL):run (.del b k)=thn (pDel b) fun _=>run k:=funext fun h=>funext fun nx=>funext fun lg=>rDel_eq h nx lg b (run k)
theorem aB7 (o:Ob) (k:Nat->AL):run (.newO o k)=thn (jH (.obj o)) fun x=>run (k x):=funext fun h=>funext fun nx=>funext fun lg=>aFi h nx lg _ fun x=>run (k x)
theorem mH (b:Nat) (k:Ob->AL):run (.getO b k)=thn (qQ b) fun x=>run (k x):=funext fun h=>funext fun nx=>funext fun lg=>rGetO_eq h nx lg b fun x=>run (k x)
theorem uV (b:Nat) (o:Ob) (k:AL):run (.setO b o k)=thn (sD b o) fun _=>run k:=funext fun h=>funext fun nx=>funext fun lg=>rSetO_eq h nx lg b o (run k)
theorem aE5 (p:AL) (k:V->List Fp->AL):run (.sub p k)=thn (lI (run p)) fun x=>run (k x.1 x.2):=funext fun h=>funext fun nx=>funext fun lg=>rSub_eq h nx lg (run p) fun x y=>run (k x y)
theorem iD:∀ p:AL,Loc (run p)
 | .ret o=>⟨fun {h nx lg r} e=>by cases e;exact⟨[],rfl,a1I _,fun _ _ _=>rfl,fun g lg2 _=>⟨g,rfl,aAO fun _ _=>aEv⟩⟩⟩
 | .fail=>⟨fun e=>by cases e⟩
 | .rd b off n k=>Loc.seq (pRd_loc b off n) (fun x=>iD (k x)) fun h nx lg=>by rw [aCU];rfl
 | .rd1 b off k=>Loc.seq (pRd1_loc b off) (fun x=>iD (k x)) fun h nx lg=>by rw [aGk];rfl
 | .wr b off l k=>Loc.seq (pWr_loc b off l) (fun _=>iD k) fun h nx lg=>by rw [aAG];rfl
 | .sz b k=>Loc.seq (pSz_loc b) (fun x=>iD (k x.1 x.2.1 x.2.2)) fun h nx lg=>by rw [aCn];rfl
 | .new c t op k=>Loc.seq (aEt (.cells c t op)) (fun x=>iD (k x)) fun h nx lg=>by rw [aBD];rfl
 | .del b k=>Loc.seq (pDel_loc b) (fun _=>iD k) fun h nx lg=>by rw [aGc];rfl
 | .newO o k=>Loc.seq (aEt (.obj o)) (fun x=>iD (k x)) fun h nx lg=>by rw [aB7];rfl
 | .getO b k=>Loc.seq (aK2 b) (fun x=>iD (k x)) fun h nx lg=>by rw [mH];rfl
 | .setO b o k=>Loc.seq (aJC b o) (fun _=>iD k) fun h nx lg=>by rw [uV];rfl
 | .sub p k=>Loc.seq (aE6 (iD p)) (fun x=>iD (k x.1 x.2)) fun h nx lg=>by rw [aE5];rfl
end
noncomputable section
abbrev Rho:=Nat->Option (Nat × Nat)
def Rho.le (ρ ρ':Rho):Prop:=∀ b x,ρ b=some x->ρ' b=some x
theorem Rho.le_refl (ρ:Rho):ρ.le ρ:=fun _ _ h=>h
theorem Rho.le_trans {a b c:Rho} (h:a.le b) (k:b.le c):a.le c:=fun x y e=>k x y (h x y e)
mutual
def tv (ρ:Rho):V->Option Value
 | .int k n=>some (.int k n)
 | .bool b=>some (.bool b)
 | .str s=>some (.string s)
 | .ptr b off=>(ρ b).map fun x=> .pointer (some ⟨x.1,off,none⟩)
 | .nilp=>some (.pointer none)
 | .sl b off len cap=>(ρ b).map fun x=> .slice (some ⟨x.1,off,none⟩) len cap
 | .so b off len es=>(ρ b).map fun x=> .slice (some ⟨x.1,off,none⟩) len (x.2 - off / es)
 | .nils=>some (.slice none 0 0)
 | .map b=>(ρ b).map fun x=> .map (some x.1)
 | .nilm=>some (.map none)
 | .fn f a c=>match tvs ρ a with
  | some x=>match tvs ρ c with
   | some y=>some (.func (.func f) ⟨x⟩ ⟨y⟩)
   | none=>none
  | none=>none
 | .yld l=>(ρ l).map fun x=> .func (.yield x.1) #[] #[]
 | .nilf=>some .nilFunc
 | .iface t v=>match tv ρ v with
  | some x=>some (.iface t x)
  | none=>none
 | .nili=>some .nilIface
 | .agg cs=>match iT cs with
  | true=>match tvs ρ cs with
   | some l=>some (.agg ⟨l⟩)
   | none=>none
  | false=>none
 | .tup vs=>match tvs ρ vs with
  | some l=>some (.tuple ⟨l⟩)
  | none=>none
def tvs (ρ:Rho):List V->Option (List Value)
 | []=>some []
 | v :: l=>match tv ρ v with
  | some x=>match tvs ρ l with
   | some r=>some (x :: r)
   | none=>none
  | none=>none
end
theorem yA {α:Type} {ρ ρ':Rho} (h:ρ.le ρ') {b:Nat} {f:Nat × Nat->α} {y:α} (e:(ρ b).map f=some y):(ρ' b).map f=some y:=by
 cases hb:ρ b with
 | none=>rw [hb]at e;cases e
 | some x=>rw [h b x hb];rw [hb]at e;exact e
mutual
theorem oH {ρ ρ':Rho} (h:ρ.le ρ'):∀ (v:V) {x:Value},tv ρ v=some x->tv ρ' v=some x
 | .int _ _,_,e=>e
 | .bool _,_,e=>e
 | .str _,_,e=>e
 | .ptr _ _,_,e=>yA h e
 | .nilp,_,e=>e
 | .sl _ _ _ _,_,e=>yA h e
 | .so _ _ _ _,_,e=>yA h e
 | .nils,_,e=>e
 | .map _,_,e=>yA h e
 | .nilm,_,e=>e
 | .fn f a c,x,e=>by
  simp only [tv]at e ⊢;cases ha:tvs ρ a with
  | none=>rw [ha]at e;cases e
  | some y=>
   rw [ha]at e;cases hc:tvs ρ c with
   | none=>rw [hc]at e;cases e
   | some z=>rw [hc]at e;rw [rJ h a ha,rJ h c hc];exact e
 | .yld _,_,e=>yA h e
 | .nilf,_,e=>e
 | .iface t v,x,e=>by
  simp only [tv]at e ⊢;cases ha:tv ρ v with
  | none=>rw [ha]at e;cases e
  | some y=>rw [ha]at e;rw [oH h v ha];exact e
 | .nili,_,e=>e
 | .agg cs,x,e=>by
  simp only [tv]at e ⊢;cases hc:iT cs with
  | false=>rw [hc]at e;cases e
  | true=>
   rw [hc]at e;simp only at e ⊢
   cases ha:tvs ρ cs with
   | none=>rw [ha]at e;cases e
   | some y=>rw [ha]at e;rw [rJ h cs ha];exact e
 | .tup cs,x,e=>by
  simp only [tv]at e ⊢;cases ha:tvs ρ cs with
  | none=>rw [ha]at e;cases e
  | some y=>rw [ha]at e;rw [rJ h cs ha];exact e
theorem rJ {ρ ρ':Rho} (h:ρ.le ρ'):∀ (l:List V) {x:List Value},tvs ρ l=some x->tvs ρ' l=some x
 | [],_,e=>e
 | v :: l,x,e=>by
  simp only [tvs]at e ⊢;cases ha:tv ρ v with
  | none=>rw [ha]at e;cases e
  | some y=>
   rw [ha]at e;cases hc:tvs ρ l with
   | none=>rw [hc]at e;cases e
   | some z=>rw [hc]at e;rw [oH h v ha,rJ h l hc];exact e
end
theorem eQ {ρ:Rho} {v:V} {l:List V} {r:List Value}:tvs ρ (v :: l)=some r ↔ ∃ x y,tv ρ v=some x/\tvs ρ l=some y/\r=x :: y:=by
 simp only [tvs]
 cases tv ρ v with
 | none=>simp
 | some x=>cases tvs ρ l with
  | none=>simp
  | some y=>simp [eq_comm]
theorem uD {ρ:Rho} {r:List Value}:tvs ρ []=some r ↔ r=[]:=by simp [tvs,eq_comm]
theorem mC {ρ:Rho}:∀ {l m:List V} {r:List Value},tvs ρ (l++m)=some r ↔ ∃ x y,tvs ρ l=some x/\tvs ρ m=some y/\r=x++y
 | [],m,r=>by
  constructor
  ·intro h;exact⟨[],r,rfl,h,rfl⟩
  ·rintro⟨x,y,h1,h2,rfl⟩;rw [uD]at h1;subst h1;exact h2
 | v :: l,m,r=>by
  rw [a0w,eQ];constructor
  ·rintro⟨x,y,h1,h2,rfl⟩
   obtain⟨a,b,h3,h4,rfl⟩:=mC.1 h2;exact⟨x :: a,b,eQ.2 ⟨x,a,h1,h3,rfl⟩,h4,rfl⟩
  ·rintro⟨a,b,h1,h2,rfl⟩
   obtain⟨x,y,h3,h4,rfl⟩:=eQ.1 h1;exact⟨x,y++b,h3,mC.2 ⟨y,b,h4,h2,rfl⟩,rfl⟩
theorem vO {ρ:Rho}:∀ {l:List V} {r:List Value},tvs ρ l=some r->r.length=l.length
 | [],r,h=>by rw [uD]at h;subst h;rfl
 | v :: l,r,h=>by
  obtain⟨x,y,_,h2,rfl⟩:=eQ.1 h;simp [vO h2]
theorem aBY {ρ:Rho}:∀ {l:List V} {r:List Value} {i:Nat} {v:V},tvs ρ l=some r->l[i]? =some v->∃ x,r[i]? =some x/\tv ρ v=some x
 | [],_,_,_,_,h=>by simp at h
 | u :: l,r,0,v,h,e=>by
  obtain⟨x,y,h1,h2,rfl⟩:=eQ.1 h;simp only [a0G,a1W]at e ⊢;subst e;exact⟨x,rfl,h1⟩
 | u :: l,r,i+1,v,h,e=>by
  obtain⟨x,y,h1,h2,rfl⟩:=eQ.1 h;simp only [a0F]at e ⊢;exact aBY h2 e
theorem aGm {ρ:Rho} {l:List V} {r:List Value} (n:Nat) (h:tvs ρ l=some r):tvs ρ (l.take n)=some (r.take n)/\tvs ρ (l.drop n)=some (r.drop n):=by
 have h':=h
 rw [<- List.take_append_drop n l,mC]at h'
 obtain⟨x,y,h1,h2,rfl⟩:=h'
 have hx:=vO h1
 have hy:=vO h2
 simp only [List.length_take,a0V]at hx hy
 by_cases hn:n<=l.length
 ·have:x.length=n:=by omega
  rw [h1,h2,List.take_left' this,List.drop_left' this];exact⟨rfl,rfl⟩
 ·have hy0:y=[]:=a0z (by omega)
  subst hy0;rw [h1,h2,a0v,a1z (by omega),a0y (by omega)];exact⟨rfl,rfl⟩
def dR:Value->Prop
 | .agg _ | .tuple _=>False
 | _=>True
theorem uE {v:V} {l:List V}:iT (v :: l)=true ↔ isC v=true/\iT l=true:=by
 simp only [iT];cases isC v <;> simp
theorem qE:∀ {l:List V},iT l=true ↔ ∀ v∈l,isC v=true
 | []=>by simp [iT]
 | v :: l=>by rw [uE,qE (l:=l)];simp
theorem aCN {ρ:Rho}:∀ {v:V} {x:Value},isC v=true->tv ρ v=some x->dR x
 | .int _ _,_,_,e=>by cases e;trivial
 | .bool _,_,_,e=>by cases e;trivial
 | .str _,_,_,e=>by cases e;trivial
 | .ptr _ _,_,_,e=>by simp only [tv,a1T]at e;obtain⟨y,_,rfl⟩:=e;trivial
 | .nilp,_,_,e=>by cases e;trivial
 | .sl _ _ _ _,_,_,e=>by simp only [tv,a1T]at e;obtain⟨y,_,rfl⟩:=e;trivial
 | .so _ _ _ _,_,_,e=>by simp only [tv,a1T]at e;obtain⟨y,_,rfl⟩:=e;trivial
 | .nils,_,_,e=>by cases e;trivial
 | .map _,_,_,e=>by simp only [tv,a1T]at e;obtain⟨y,_,rfl⟩:=e;trivial
 | .nilm,_,_,e=>by cases e;trivial
 | .fn _ a c,x,_,e=>by
  simp only [tv]at e;cases ha:tvs ρ a with
  | none=>rw [ha]at e;cases e
  | some y=>rw [ha]at e;cases hc:tvs ρ c with
   | none=>rw [hc]at e;cases e
   | some z=>rw [hc]at e;cases e;trivial
 | .yld _,_,_,e=>by simp only [tv,a1T]at e;obtain⟨y,_,rfl⟩:=e;trivial
 | .nilf,_,_,e=>by cases e;trivial
 | .iface _ v,x,_,e=>by
  simp only [tv]at e;cases ha:tv ρ v with
  | none=>rw [ha]at e;cases e
  | some y=>rw [ha]at e;cases e;trivial
 | .nili,_,_,e=>by cases e;trivial
 | .agg _,_,h,_=>by cases h
 | .tup _,_,h,_=>by cases h
def cells (ρ:Rho) (l:List V) (r:List Value):Prop:=iT l=true/\tvs ρ l=some r
theorem cells.is {ρ:Rho}:∀ {l:List V} {r:List Value},cells ρ l r->∀ x∈r,dR x
 | [],r,h,x,hx=>by rw [uD.1 h.2]at hx;cases hx
 | v :: l,r,h,x,hx=>by
  obtain⟨y,z,h1,h2,rfl⟩:=eQ.1 h.2;obtain⟨h3,h4⟩:=uE.1 h.1;rcases a1i.1 hx with rfl | hx
  ·exact aCN h3 h1
  ·exact cells.is ⟨h4,h2⟩ x hx
theorem cells.mono {ρ ρ':Rho} (h:ρ.le ρ') {l:List V} {r:List Value} (c:cells ρ l r):cells ρ' l r:=⟨c.1,rJ h l c.2⟩
theorem cells.app {ρ:Rho} {l m:List V} {r s:List Value} (c:cells ρ l r) (d:cells ρ m s):cells ρ (l++m) (r++s):=
 ⟨qE.2 fun v hv=>by
  rcases a1f.1 hv with h | h
  ·exact qE.1 c.1 v h
  ·exact qE.1 d.1 v h,mC.2 ⟨r,s,c.2,d.2,rfl⟩⟩
theorem cells.take {ρ:Rho} {l:List V} {r:List Value} (c:cells ρ l r) (n:Nat):cells ρ (l.take n) (r.take n):=⟨qE.2 fun v hv=>qE.1 c.1 v (List.mem_of_mem_take hv),(aGm n c.2).1⟩
theorem cells.drop {ρ:Rho} {l:List V} {r:List Value} (c:cells ρ l r) (n:Nat):cells ρ (l.drop n) (r.drop n):=⟨qE.2 fun v hv=>qE.1 c.1 v (List.mem_of_mem_drop hv),(aGm n c.2).2⟩
theorem cells.len {ρ:Rho} {l:List V} {r:List Value} (c:cells ρ l r):r.length=l.length:=vO c.2
theorem cells.nil {ρ:Rho}:cells ρ [] []:=⟨rfl,rfl⟩
theorem cells.get {ρ:Rho} {l:List V} {r:List Value} (c:cells ρ l r) {i:Nat} {v:V} (h:l[i]? =some v):∃ x,r[i]? =some x/\tv ρ v=some x/\isC v=true:=
 let ⟨x,h1,h2⟩:=aBY c.2 h
 ⟨x,h1,h2,qE.1 c.1 v (a1m h)⟩
theorem dR.cells {v:Value} (h:dR v):v.cells=#[v]:=by cases v <;> first | rfl | exact h.elim
theorem iN {ρ:Rho} {v:V} {x:Value} (hc:isC v=true) (e:tv ρ v=some x):vc v=some [v]/\BX.cells ρ [v] x.cells.toList:=
 ⟨(by cases v <;> first | rfl | cases hc),uE.2 ⟨hc,rfl⟩,eQ.2 ⟨x,[],e,rfl,by rw [(aCN hc e).cells]⟩⟩
theorem aCb {ρ:Rho} {cs:List V} {x:Value} (e:tv ρ (.agg cs)=some x):∃ l,cells ρ cs l/\x= .agg ⟨l⟩:=by
 simp only [tv]at e
 cases hc:iT cs with
 | false=>rw [hc]at e;cases e
 | true=>
  rw [hc]at e;simp only at e
  cases ha:tvs ρ cs with
  | none=>rw [ha]at e;cases e
  | some y=>rw [ha]at e;cases e;exact⟨y,⟨hc,ha⟩,rfl⟩
theorem xF {ρ:Rho}:∀ {v:V} {x:Value} {c:List V},vc v=some c->tv ρ v=some x->BX.cells ρ c x.cells.toList
 | .agg cs,x,c,h,e=>by
  obtain⟨l,h1,rfl⟩:=aCb e;cases h;exact h1
 | .tup _,_,_,h,_=>by cases h
 | .int _ _,_,_,h,e=>by cases h;exact(iN rfl e).2
 | .bool _,_,_,h,e=>by cases h;exact(iN rfl e).2
 | .str _,_,_,h,e=>by cases h;exact(iN rfl e).2
 | .ptr _ _,_,_,h,e=>by cases h;exact(iN rfl e).2
 | .nilp,_,_,h,e=>by cases h;exact(iN rfl e).2
 | .sl _ _ _ _,_,_,h,e=>by cases h;exact(iN rfl e).2
 | .so _ _ _ _,_,_,h,e=>by cases h;exact(iN rfl e).2
 | .nils,_,_,h,e=>by cases h;exact(iN rfl e).2
 | .map _,_,_,h,e=>by cases h;exact(iN rfl e).2
 | .nilm,_,_,h,e=>by cases h;exact(iN rfl e).2
 | .fn _ _ _,_,_,h,e=>by cases h;exact(iN rfl e).2
 | .yld _,_,_,h,e=>by cases h;exact(iN rfl e).2
 | .nilf,_,_,h,e=>by cases h;exact(iN rfl e).2
 | .iface _ _,_,_,h,e=>by cases h;exact(iN rfl e).2
 | .nili,_,_,h,e=>by cases h;exact(iN rfl e).2
theorem aBo {ρ:Rho} {cs:List V} {l:List Value} (h:cells ρ cs l):tv ρ (.agg cs)=some (.agg ⟨l⟩):=by
 simp only [tv,h.1,h.2]
def entR (ρ:Rho) (e:Ent) (m:MapEntry):Prop:=tv ρ e.key=some m.key/\tv ρ e.val=some m.val/\m.born=e.born
def lC (ρ:Rho):List Ent->List MapEntry->Prop
 | [],[]=>True
 | e :: es,m :: ms=>entR ρ e m/\lC ρ es ms
 | _,_=>False
structure cA (ρ:Rho) (e:Tr V) (n:Nat) (a:Array Value):Prop where
 size:a.size=n
 get:∀ t v,at_ e t=some v->∃ x,a[t]? =some x/\tv ρ v=some x
def obR (ρ:Rho):Ob->Obj->Prop
 | .map es c, .map ms c'=>c'=c/\lC ρ es ms.toList
 | .loop st p _ e n ps sg bd d, .loop r=>r.state=st/\r.pending=p/\cA ρ e n r.tmps/\r.params.toList=ps/\r.assign=sg/\r.body=bd/\∃ x,ρ d=some x/\r.defers=x.1
 | .dfr l, .deferred c=>c=if l then some [] else none
 | _,_=>False
def blkR (ρ:Rho) (κ:Nat):Blk->Obj->Prop
 | .cells c t op, .cells a t' fz=>t'=t/\fz=(0,0)/\∃ l junk,cells ρ c l/\a=⟨l++junk⟩/\(op=0->junk=[])/\(0<op->l.length+junk.length=κ*op)
 | .obj o,o'=>obR ρ o o'
 | _,_=>False
structure G where
 w:World
 lo:Nat
 hi:Nat
 ρ:Rho
structure Rel (g:G) (ρ:Rho) (h:Tr Blk) (nx:Nat) (w:World):Prop where
 blk:∀ b k,at_ h b=some k->∃ x o,ρ b=some x/\w.heap[x.1]? =some o/\blkR ρ x.2 k o
 inj:∀ b b' x x',at_ h b≠none->at_ h b'≠none->ρ b=some x->ρ b'=some x'->x.1=x'.1->b=b'
 new:∀ b x,ρ b=some x->g.w.heap.size<=x.1
 below:RowKit.Below g.w.heap.size g.w w
 lo:g.lo<=nx
 fresh:∀ b,nx<=b->b<g.hi->ρ b=none
 le:g.ρ.le ρ
 out:∀ b,b<g.lo\/g.hi<=b->ρ b=g.ρ b
theorem entR.mono {ρ ρ':Rho} (h:ρ.le ρ') {e:Ent} {m:MapEntry} (r:entR ρ e m):entR ρ' e m:=⟨oH h _ r.1,oH h _ r.2.1,r.2.2⟩
theorem lC.mono {ρ ρ':Rho} (h:ρ.le ρ'):∀ {es:List Ent} {ms:List MapEntry},lC ρ es ms->lC ρ' es ms
 | [],[],_=>trivial
 | _ :: _,_ :: _,r=>⟨r.1.mono h,lC.mono h r.2⟩
 | [],_ :: _,r=>r.elim
 | _ :: _,[],r=>r.elim
theorem cA.mono {ρ ρ':Rho} (h:ρ.le ρ') {e:Tr V} {n:Nat} {a:Array Value} (r:cA ρ e n a):cA ρ' e n a:=
 ⟨r.size,fun t v ht=>let ⟨x,h1,h2⟩:=r.get t v ht;⟨x,h1,oH h v h2⟩⟩
theorem obR.mono {ρ ρ':Rho} (h:ρ.le ρ') {o:Ob} {o':Obj} (r:obR ρ o o'):obR ρ' o o':=by
 cases o with
 | map es c=>cases o' <;> first | exact⟨r.1,r.2.mono h⟩ | exact r.elim
 | loop st p f e n ps sg bd d=>
  cases o' <;> first
   | (obtain⟨h1,h2,h3,h4,h5,h6,x,h7,h8⟩:=r;exact⟨h1,h2,h3.mono h,h4,h5,h6,x,h _ _ h7,h8⟩)
   | exact r.elim
 | dfr b=>cases o' <;> exact r
theorem blkR.mono {ρ ρ':Rho} (h:ρ.le ρ') {κ:Nat} {k:Blk} {o:Obj} (r:blkR ρ κ k o):blkR ρ' κ k o:=by
 cases k with
 | obj o'=>exact obR.mono h r
 | cells c t op=>
  cases o <;> first
   | (obtain⟨h1,h2,l,j,h3,h4⟩:=r;exact⟨h1,h2,l,j,h3.mono h,h4⟩)
   | exact r.elim
end
open RowKit (Below)
noncomputable section
section
variable {h:Tr Blk} {nx:Nat} {lg:List Fp} {r:O × S}
theorem kZ {α:Type} {o:Option α} {p:AL} {f:α->AL} (e:run (opt o p f) h nx lg=some r):(o=none/\run p h nx lg=some r)\/∃ a,o=some a/\run (f a) h nx lg=some r:=by
 cases o with
 | none=>exact .inl ⟨rfl,e⟩
 | some a=>exact .inr ⟨a,rfl,e⟩
theorem bW {α:Type} {o:Option α} {f:α->AL} (e:run (oo o f) h nx lg=some r):∃ a,o=some a/\run (f a) h nx lg=some r:=by
 rcases kZ e with⟨_,e⟩ | e
 ·cases e
 ·exact e
theorem gM {x:Operand} {e:Tr V} {f:V->AL} (q:run (cP x e f) h nx lg=some r):∃ v,ev x e=some v/\run (f v) h nx lg=some r:=bW (o:=ev x e) (f:=f) q
theorem tX {x y:Operand} {e:Tr V} {f:V->V->AL} (q:run (eB x y e f) h nx lg=some r):∃ v u,ev x e=some v/\ev y e=some u/\run (f v u) h nx lg=some r:=by
 obtain⟨v,h1,q⟩:=bW (o:=ev x e) (f:=fun v=>oo (ev y e) (f v)) q
 obtain⟨u,h2,q⟩:=bW q
 exact⟨v,u,h1,h2,q⟩
theorem aEQ {x y z:Operand} {e:Tr V} {f:V->V->V->AL} (q:run (eZ x y z e f) h nx lg=some r):∃ v u t,ev x e=some v/\ev y e=some u/\ev z e=some t/\run (f v u t) h nx lg=some r:=by
 obtain⟨v,h1,q⟩:=gM q
 obtain⟨u,t,h2,h3,q⟩:=tX q
 exact⟨v,u,t,h1,h2,h3,q⟩
theorem kQ {l:List Operand} {e:Tr V} {f:List V->AL} (q:run (fJ l e f) h nx lg=some r):∃ vs,evs l e=some vs/\run (f vs) h nx lg=some r:=bW q
theorem aDM {x:Option Operand} {e:Tr V} {f:Option V->AL} (q:run (zY x e f) h nx lg=some r):∃ v,evO x e=some v/\run (f v) h nx lg=some r:=bW q
theorem dT {b:Bool} {p:AL} (q:run (dM b p) h nx lg=some r):b=true/\run p h nx lg=some r:=by
 cases b with
 | true=>exact⟨rfl,q⟩
 | false=>cases q
theorem iK {b:Bool} {p p':AL} (q:run (ife b p p') h nx lg=some r):(b=true/\run p h nx lg=some r)\/(b=false/\run p' h nx lg=some r):=by
 cases b with
 | true=>exact .inl ⟨rfl,q⟩
 | false=>exact .inr ⟨rfl,q⟩
theorem xT {v:V} {f:Nat->Nat->AL} (q:run (wU v f) h nx lg=some r):∃ b off,v= .ptr b off/\run (f b off) h nx lg=some r:=by
 cases v <;> first
  | exact⟨_,_,rfl,q⟩
  | cases q
theorem aHP {v:V} {f:Bool->AL} (q:run (asBool v f .fail) h nx lg=some r):∃ b,v= .bool b/\run (f b) h nx lg=some r:=by
 cases v <;> first
  | exact⟨_,rfl,q⟩
  | cases q
theorem aI8 {v:V} {f:List V->AL} (q:run (asTup v f) h nx lg=some r):∃ l,v= .tup l/\run (f l) h nx lg=some r:=by
 cases v <;> first
  | exact⟨_,rfl,q⟩
  | cases q
theorem aC1 {v:V} {f:Nat->AL} {p:AL} (q:run (asMap v f p) h nx lg=some r):(∃ b,v= .map b/\run (f b) h nx lg=some r)\/(v= .nilm/\run p h nx lg=some r):=by
 cases v <;> first
  | exact .inl ⟨_,rfl,q⟩
  | exact .inr ⟨rfl,q⟩
  | cases q
theorem aDI {v:V} {f:Nat->V->AL} {p:AL} (q:run (asIf v f p) h nx lg=some r):(∃ t u,v= .iface t u/\run (f t u) h nx lg=some r)\/(v= .nili/\run p h nx lg=some r):=by
 cases v <;> first
  | exact .inl ⟨_,_,rfl,q⟩
  | exact .inr ⟨rfl,q⟩
  | cases q
theorem aDP {v:V} {f:Nat->List V->List V->AL} {y:Nat->AL} (q:run (asFn v f y) h nx lg=some r):(∃ g a c,v= .fn g a c/\run (f g a c) h nx lg=some r)\/(∃ l,v= .yld l/\run (y l) h nx lg=some r):=by
 cases v <;> first
  | exact .inl ⟨_,_,_,rfl,q⟩
  | exact .inr ⟨_,rfl,q⟩
  | cases q
theorem tY {v:V} {f:Nat->Nat->Nat->Nat->AL} {f':Nat->Nat->Nat->Nat->AL} {p d:AL} (q:run (asSl v f f' p d) h nx lg=some r):
 (∃ b off len cap,v= .sl b off len cap/\run (f b off len cap) h nx lg=some r)\/(∃ b off len es,v= .so b off len es/\run (f' b off len es) h nx lg=some r)\/(v= .nils/\run p h nx lg=some r)\/run d h nx lg=some r:=by
 cases v <;> first
  | exact .inl ⟨_,_,_,_,rfl,q⟩
  | exact .inr (.inl ⟨_,_,_,_,rfl,q⟩)
  | exact .inr (.inr (.inl ⟨rfl,q⟩))
  | exact .inr (.inr (.inr q))
theorem aGG {v:V} {f:IntKind->Int->AL} {d:AL} (q:run (yF v f d) h nx lg=some r):(∃ k n,v= .int k n/\run (f k n) h nx lg=some r)\/run d h nx lg=some r:=by
 cases v <;> first
  | exact .inl ⟨_,_,rfl,q⟩
  | exact .inr q
theorem aHz {v:V} {f:List V->AL} {d:AL} (q:run (asAgg v f d) h nx lg=some r):(∃ cs,v= .agg cs/\run (f cs) h nx lg=some r)\/run d h nx lg=some r:=by
 cases v <;> first
  | exact .inl ⟨_,rfl,q⟩
  | exact .inr q
theorem aCl {v:V} {f:ByteArray->AL} {d:AL} (q:run (yK v f d) h nx lg=some r):(∃ s,v= .str s/\run (f s) h nx lg=some r)\/run d h nx lg=some r:=by
 cases v <;> first
  | exact .inl ⟨_,rfl,q⟩
  | exact .inr q
theorem dW {α:Type} {pr:Pr α} {k:α->St} (q:thn pr k h nx lg=some r):∃ x h1 n1 l,pr h nx=some (x,h1,n1,l)/\k x h1 n1 (l++lg)=some r:=by
 unfold thn at q
 cases hq:pr h nx with
 | none=>rw [hq]at q;cases q
 | some y=>
  obtain⟨x,h1,n1,l⟩:=y;rw [hq]at q;exact⟨x,h1,n1,l,rfl,q⟩
theorem zM {v:V} {n:Nat} (q:qZ v=some n):∃ k,v= .int k (.ofNat n):=by
 cases v <;> try (cases q;done)
 rename_i k i
 cases i with
 | ofNat m=>exact⟨k,by cases q;rfl⟩
 | negSucc m=>cases q
theorem tA {p:AL} (q:run p h nx lg=some r):nx<=r.2.nx:=let ⟨_,_,h2,_⟩:=(iD p).shape q;h2
end
mutual
theorem xD (ρ:Rho):∀ (c:Value) {v:V},ofC c=some v->tv ρ v=some c
 | .int _ _,_,e=>by cases e;rfl
 | .bool _,_,e=>by cases e;rfl
 | .float _ _,_,e=>by cases e
 | .complex _ _ _,_,e=>by cases e
 | .string _,_,e=>by cases e;rfl
 | .pointer none,_,e=>by cases e;rfl
 | .pointer (some _),_,e=>by cases e
 | .slice none 0 0,_,e=>by cases e;rfl
 | .slice none 0 (_+1),_,e=>by cases e
 | .slice none (_+1) _,_,e=>by cases e
 | .slice (some _) _ _,_,e=>by cases e
 | .map none,_,e=>by cases e;rfl
 | .map (some _),_,e=>by cases e
 | .chan _,_,e=>by cases e
 | .func _ _ _,_,e=>by cases e
 | .nilFunc,_,e=>by cases e;rfl
 | .nilIface,_,e=>by cases e;rfl
 | .iface t c,v,e=>by
  simp only [ofC]at e;cases h:ofC c with
  | none=>rw [h]at e;cases e
  | some x=>rw [h]at e;cases e;simp only [tv,xD ρ c h]
 | .agg cs,v,e=>by
  simp only [ofC]at e;cases h:ofA cs with
  | none=>rw [h]at e;cases e
  | some l=>
   rw [h]at e;simp only at e
   cases hc:iT l with
   | false=>rw [hc]at e;cases e
   | true=>rw [hc]at e;cases e;simp only [tv,hc,ofA_tv ρ cs h]
 | .tuple cs,v,e=>by
  simp only [ofC]at e;cases h:ofA cs with
  | none=>rw [h]at e;cases e
  | some l=>rw [h]at e;cases e;simp only [tv,ofA_tv ρ cs h]
theorem ofA_tv (ρ:Rho):∀ (cs:Array Value) {l:List V},ofA cs=some l->tvs ρ l=some cs.toList
 | ⟨l⟩,_,e=>ofL_tv ρ l e
theorem ofL_tv (ρ:Rho):∀ (cs:List Value) {l:List V},ofL cs=some l->tvs ρ l=some cs
 | [],_,e=>by cases e;rfl
 | c :: cs,l,e=>by
  simp only [ofL]at e;cases h:ofC c with
  | none=>rw [h]at e;cases e
  | some x=>
   rw [h]at e;simp only at e
   cases h2:ofL cs with
   | none=>rw [h2]at e;cases e
   | some y=>rw [h2]at e;cases e;exact eQ.2 ⟨c,cs,xD ρ c h,ofL_tv ρ cs h2,rfl⟩
end
theorem dH {ρ:Rho} {e:Tr V} {n:Nat} {a:Act} (he:cA ρ e n a.tmps):∀ {x:Operand} {v:V},ev x e=some v->tv ρ v=some (a.eval x)
 | .tmp t,v,q=>by
  obtain⟨x,h1,h2⟩:=he.get t v q;rw [h2];simp [Act.eval,a0b,h1]
 | .const c,v,q=>xD ρ c q
 | .global _,_,q=>by cases q
 | .func f,v,q=>by cases q;rfl
theorem jZ {ρ:Rho} {e:Tr V} {n:Nat} {a:Act} (he:cA ρ e n a.tmps):∀ {l:List Operand} {vs:List V},evs l e=some vs->tvs ρ vs=some (l.map a.eval)
 | [],vs,q=>by cases q;rfl
 | x :: l,vs,q=>by
  have q':(Option.rec none (fun v=>Option.rec none (fun vs=>some (v :: vs)) (evs l e)) (ev x e):Option (List V))=some vs:=q
  cases h1:ev x e with
  | none=>rw [h1]at q';cases q'
  | some v=>
   rw [h1]at q';cases h2:evs l e with
   | none=>simp only [h2]at q';cases q'
   | some us=>
    simp only [h2]at q';cases q';exact eQ.2 ⟨_,_,dH he h1,jZ he h2,rfl⟩
theorem cA.put {ρ:Rho} {e:Tr V} {n:Nat} {a:Act} (he:cA ρ e n a.tmps) {t:Nat} (ht:t<n) {v:V} {x:Value} (hv:tv ρ v=some x):cA ρ (pu e t (some v)) n (a.put (some t) x).tmps:=by
 refine⟨by simp [Act.put,he.size],fun s u hu=>?_⟩
 rw [gL]at hu
 by_cases hs:s=t
 ·subst hs;rw [a2f rfl]at hu;cases hu
  exact⟨x,by simp [Act.put,he.size,ht],hv⟩
 ·rw [a2e hs]at hu;obtain⟨y,h1,h2⟩:=he.get s u hu;exact⟨y,by simp [Act.put,a0f (Ne.symm hs),h1],h2⟩
theorem Rel.lt {g:G} {ρ:Rho} {h:Tr Blk} {nx:Nat} {w:World} (R:Rel g ρ h nx w) {b:Nat} {k:Blk} (e:at_ h b=some k):∃ x o,ρ b=some x/\w.heap[x.1]? =some o/\blkR ρ x.2 k o/\x.1<w.heap.size:=by
 obtain⟨x,o,h1,h2,h3⟩:=R.blk b k e
 exact⟨x,o,h1,h2,h3,SX.heap_lt h2⟩
theorem Rel.row {g:G} {ρ:Rho} {h:Tr Blk} {nx:Nat} {w:World} (R:Rel g ρ h nx w) {b:Nat} {c:List V} {t op:Nat} (e:at_ h b=some (.cells c t op)):
 ∃ x l junk,ρ b=some x/\w.heap[x.1]? =some (.cells ⟨l++junk⟩ t (0,0))/\cells ρ c l/\(op=0->junk=[])/\(0<op->l.length+junk.length=x.2*op):=by
 obtain⟨x,o,h1,h2,h3⟩:=R.blk b _ e
 cases o <;> first
  | (obtain⟨rfl,rfl,l,j,h4,rfl,h5,h6⟩:=h3;exact⟨x,l,j,h1,h2,h4,h5,h6⟩)
  | exact h3.elim
theorem aAl (b off i:Nat):Addr.add ⟨b,off,none⟩ i=⟨b,off+i,none⟩:=by
 unfold Addr.add;split
 ·subst_vars;rfl
 ·rfl
theorem aAb {w:World} {x:Nat} {a:Array Value} {t:Nat} {fz:Nat × Nat} (h:w.heap[x]? =some (.cells a t fz)) (i:Nat):w.cell? ⟨x,i,none⟩=a[i]?:=by
 simp [World.cell?,h]
theorem aEe {P:Program} {g:G} {ρ:Rho} {h:Tr Blk} {nx:Nat} {w:World} (R:Rel g ρ h nx w) {b off n:Nat} {l:List V} {h1:Tr Blk} {n1:Nat} {m:List Fp}
 (e:pRd b off n h nx=some (l,h1,n1,m)):∃ x r,ρ b=some x/\(loadCells ⟨x.1,off,none⟩ n).run P w= .ok ⟨r⟩ w/\cells ρ l r/\l.length=n/\h1=h/\n1=nx:=by
 unfold pRd at e
 split at e
 ·rename_i c t op hb;split at e
  ·rename_i l' htk;split at e
   ·cases e;obtain⟨x,cl,junk,hx,hw,hc,_,_⟩:=R.row hb;rw [dr_eq,zE]at htk;obtain⟨h2,rfl⟩:=htk;simp only [a0V]at h2;have hcl:=hc.len;have hlen:((cl.drop off).take n).length=n:=by simp;omega
    refine⟨x,(cl.drop off).take n,hx,?_,(hc.drop off).take n,by simp;omega,rfl,rfl⟩
    have:=SX.run_loadCellsFrom (P:=P) (w:=w) (p:=⟨x.1,off,none⟩) ((cl.drop off).take n) 0 #[] (fun j v hj=>by
     rw [aAl,aAb hw];have hjn:j<n:=by have:=(a0K.1 hj).1;omega
     rw [a0Q hjn,a0H]at hj;rw [a0R,a1Q,a0E (a0K.1 hj).1];exact hj)
    rw [hlen]at this;unfold loadCells;rw [this];simp
   ·cases e
  ·cases e
 ·cases e
theorem aI9 {g:G} {ρ:Rho} {h:Tr Blk} {nx:Nat} {w:World} (R:Rel g ρ h nx w) {b off:Nat} {v:V} {h1:Tr Blk} {n1:Nat} {m:List Fp}
 (e:pRd1 b off h nx=some (v,h1,n1,m)):∃ x u,ρ b=some x/\w.cell? ⟨x.1,off,none⟩=some u/\tv ρ v=some u/\isC v=true/\h1=h/\n1=nx:=by
 obtain⟨e1,e2⟩:=yX.1 e
 cases e2
 obtain⟨c,t,op,hb,hv⟩:=mL.1 e1
 obtain⟨x,cl,junk,hx,hw,hc,_,_⟩:=R.row hb
 obtain⟨u,h2,h3,h4⟩:=hc.get hv
 refine⟨x,u,hx,?_,h3,h4,rfl,rfl⟩
 rw [aAb hw,a0R,a0E (a0K.1 h2).1];exact h2
theorem Rel.ext {g:G} {ρ:Rho} {h h':Tr Blk} {nx:Nat} {w:World} (R:Rel g ρ h nx w) (e:∀ b,at_ h' b=at_ h b):Rel g ρ h' nx w:=
 ⟨fun b k q=>R.blk b k (by rw [<- e];exact q),fun b b' x x' p q=>R.inj b b' x x' (by rw [<- e];exact p) (by rw [<- e];exact q),R.new,R.below,R.lo,R.fresh,R.le,R.out⟩
theorem Rel.write {g:G} {ρ:Rho} {h:Tr Blk} {nx:Nat} {w w':World} (R:Rel g ρ h nx w) {b:Nat} {x:Nat × Nat} {k k':Blk} {o':Obj} (hb:at_ h b=some k) (hx:ρ b=some x) (hw:w'.heap[x.1]? =some o')
 (ho:∀ c,c≠x.1->w'.heap[c]? =w.heap[c]?) (hsz:w'.heap.size=w.heap.size) (hos:w'.os=w.os) (hout:w'.output=w.output) (htp:w'.tape=w.tape) (hk:blkR ρ x.2 k' o'):Rel g ρ (pu h b (some k')) nx w':=by
 refine⟨fun c q hc=>?_,fun c c' y y' h1 h2 h3 h4 h5=>?_,R.new,⟨hos.trans R.below.os,htp.trans R.below.tape,hout.trans R.below.output,by rw [hsz];exact R.below.size,fun c hc=>?_⟩,R.lo,R.fresh,R.le,R.out⟩
 ·rw [gL]at hc;by_cases e:c=b
  ·subst e;rw [a2f rfl]at hc;cases hc;exact⟨x,o',hx,hw,hk⟩
  ·rw [a2e e]at hc;obtain⟨y,o,h1,h2,h3⟩:=R.blk c q hc;refine⟨y,o,h1,?_,h3⟩;rw [ho y.1 fun e2=>e (R.inj c b y x (by rw [hc];simp) (by rw [hb];simp) h1 hx e2)];exact h2
 ·refine R.inj c c' y y' (fun e=>h1 ?_) (fun e=>h2 ?_) h3 h4 h5
  ·rw [gL];split
   ·subst_vars;rw [hb]at e;cases e
   ·exact e
  ·rw [gL];split
   ·subst_vars;rw [hb]at e;cases e
   ·exact e
 ·have:=R.new b x hx;rw [ho c (by omega)];exact R.below.block c hc
theorem aHj {w:World} {b off:Nat} {a:Array Value} {t:Nat} {fz:Nat × Nat} (h:w.heap[b]? =some (.cells a t fz)) (u:Value):
 (w.setCell ⟨b,off,none⟩ u).heap[b]? =some (.cells (a.setIfInBounds off u) t fz):=SX.setCell_self w ⟨b,off,none⟩ u h rfl
theorem aEi {α:Type} {c l:List α} {off:Nat} {v:α} (h:off+(v :: l).length<=c.length):((c.set off v).take (off+1)++l++(c.set off v).drop (off+1+l.length))=c.take off++(v :: l)++c.drop (off+(v :: l).length):=by
 simp only [a0U]at h
 have h2:(c.set off v).take (off+1)=c.take off++[v]:=by
  rw [List.take_set,a1A (by omega),List.set_append_right _ _ (by simp;omega)];simp [a1N (by omega:off<=c.length)]
 have h3:(c.set off v).drop (off+1+l.length)=c.drop (off+(v :: l).length):=by
  rw [List.drop_set,a2f (by omega)];congr 1;simp;omega
 rw [h2,h3];simp
theorem aIZ {ρ:Rho} {c:List V} {l:List Value} (h:cells ρ c l) {i:Nat} {v:V} {u:Value} (hv:isC v=true) (e:tv ρ v=some u) (hi:i<c.length):cells ρ (c.set i v) (l.set i u):=by
 have hl:=h.len
 have e1:c.set i v=c.take i++v :: c.drop (i+1):=by rw [List.set_eq_take_append_cons_drop,a2f hi]
 have e2:l.set i u=l.take i++u :: l.drop (i+1):=by rw [List.set_eq_take_append_cons_drop,a2f (by omega)]
 rw [e1,e2]
 have h1:cells ρ [v] [u]:=⟨uE.2 ⟨hv,rfl⟩,eQ.2 ⟨u,[],e,rfl,rfl⟩⟩
 exact(h.take i).app (h1.app (h.drop (i+1)))
theorem aH0 {P:Program} {g:G} {ρ:Rho} {nx:Nat} {b t op:Nat} {x:Nat × Nat}:∀ (l:List V) (r:List Value) (off:Nat) (c:List V) (h:Tr Blk) (w:World) (k i:Nat),Rel g ρ h nx w->at_ h b=some (.cells c t op)->ρ b=some x ->
 cells ρ l r->off+l.length<=c.length->off=k+i->∃ w',(storeCells ⟨x.1,k,none⟩ r i).run P w= .ok () w'/\Rel g ρ (pu h b (some (.cells (c.take off++l++c.drop (off+l.length)) t op))) nx w'
 | [],r,off,c,h,w,k,i,R,hb,hx,hc,hle,hk=>by
  rw [uD.1 hc.2];refine⟨w,rfl,R.ext fun d=>?_⟩
  rw [gL];split
  ·subst_vars;rw [hb];simp
  ·rfl
 | v :: l,r,off,c,h,w,k,i,R,hb,hx,hc,hle,hk=>by
  obtain⟨u,r,h1,h2,rfl⟩:=eQ.1 hc.2;obtain⟨h3,h4⟩:=uE.1 hc.1;obtain⟨y,cl,junk,hy,hw,hcc,hj0,hj1⟩:=R.row hb;rw [hx]at hy;cases hy
  have hlen:=hcc.len;have hoff:off<c.length:=by simp at hle;omega
  have hcell:w.cell? ⟨x.1,off,none⟩=some (cl[off]'(by omega)):=by
   rw [aAb hw,a0R,a0E (by omega)];simp
  have hfr:w.frozen? ⟨x.1,off,none⟩=false:=by simp [World.frozen?,hw]
  have hrun:(Go.store ⟨x.1,off,none⟩ u).run P w= .ok () (w.setCell ⟨x.1,off,none⟩ u):=SX.run_store (P:=P) (by
   have:=aCN h3 h1;cases u <;> first | exact this.elim | trivial) hcell hfr
  have hcc':=aIZ hcc h3 h1 hoff;have R':Rel g ρ (pu h b (some (.cells (c.set off v) t op))) nx (w.setCell ⟨x.1,off,none⟩ u):=
   R.write hb hx (aHj hw u) (fun d hd=>SX.setCell_other w ⟨x.1,off,none⟩ u hd) (SX.setCell_size _ _ _) rfl rfl rfl
    ⟨rfl,rfl,cl.set off u,junk,hcc',by simp [List.set_append_left _ _ (by omega:off<cl.length)],hj0,fun h=>by simp;exact hj1 h⟩
  obtain⟨w',hr,hR⟩:=aH0 (P:=P) l r (off+1) (c.set off v) _ _ k (i+1) R' at_same hx ⟨h4,h2⟩ (by simp at hle ⊢;omega) (by omega)
  refine⟨w',?_,hR.ext fun d=>?_⟩
  ·have e0:Addr.add ⟨x.1,k,none⟩ i=⟨x.1,off,none⟩:=by rw [aAl,hk]
   simp only [storeCells,a1Y,e0,hrun];exact hr
  ·rw [gL,gL];split
   ·rw [aEi hle]
   ·rw [at_ne (by assumption)]
theorem aA1 {P:Program} {g:G} {ρ:Rho} {h:Tr Blk} {nx:Nat} {w:World} (R:Rel g ρ h nx w) {b off:Nat} {l:List V} {r:List Value} {h1:Tr Blk} {n1:Nat} {m:List Fp}
 (e:pWr b off l h nx=some ((),h1,n1,m)) (hc:cells ρ l r):∃ x w',ρ b=some x/\(storeCells ⟨x.1,off,none⟩ r).run P w= .ok () w'/\Rel g ρ h1 n1 w':=by
 unfold pWr at e
 split at e
 ·rename_i c t op hb;split at e
  ·rename_i c' hpl;split at e
   ·cases e;obtain⟨h2,rfl⟩:=(uT l off c c').1 hpl;obtain⟨x,_,_,hx,_⟩:=R.row hb;obtain⟨w',h3,h4⟩:=aH0 (P:=P) l r off c h w off 0 R hb hx hc h2 rfl;exact⟨x,w',hx,h3,h4⟩
   ·cases e
  ·cases e
 ·cases e
def Rho.ins (ρ:Rho) (b:Nat) (x:Nat × Nat):Rho:=fun c=>if c=b then some x else ρ c
theorem Rho.le_ins {ρ:Rho} {b:Nat} {x:Nat × Nat} (h:ρ b=none):ρ.le (ρ.ins b x):=fun c y e=>by
 unfold Rho.ins;split
 ·subst c;rw [h]at e;cases e
 ·exact e
theorem Rho.ins_self {ρ:Rho} {b:Nat} {x:Nat × Nat}:ρ.ins b x b=some x:=by simp [Rho.ins]
theorem aAA {g:G} {ρ:Rho} {h:Tr Blk} {nx:Nat} {w:World} (R:Rel g ρ h nx w) {k:Blk} {b:Nat} {h1:Tr Blk} {n1:Nat} {m:List Fp}
 (e:jH k h nx=some (b,h1,n1,m)) (hi:n1<=g.hi) (κ:Nat) (o:Obj) (hk:blkR (ρ.ins nx (w.heap.size,κ)) κ k o):b=nx/\ρ.le (ρ.ins nx (w.heap.size,κ))/\Rel g (ρ.ins nx (w.heap.size,κ)) h1 n1 (w.alloc o):=by
 unfold jH at e
 split at e
 ·rename_i h0;cases e;have hn:ρ nx=none:=R.fresh nx (a1I _) hi;have hle:=Rho.le_ins (x:=(w.heap.size,κ)) hn;have hnew:(w.alloc o).heap[w.heap.size]? =some o:=by show(w.heap.push o)[w.heap.size]? =_;simp
  refine⟨rfl,hle,⟨fun c q hc=>?_,fun c c' y y' h1 h2 h3 h4 h5=>?_,fun c y hy=>?_,R.below.alloc R.below.size o,Nat.le_succ_of_le R.lo,fun c hc hc2=>?_,Rho.le_trans R.le hle,fun c hc=>?_⟩⟩
  ·rw [gL]at hc;by_cases e:c=nx
   ·subst e;rw [a2f rfl]at hc;cases hc;exact⟨_,o,Rho.ins_self,hnew,hk⟩
   ·rw [a2e e]at hc;obtain⟨y,o2,h1,h2,h3,h4⟩:=R.lt hc;exact⟨y,o2,hle _ _ h1,by rw [Below.heap_alloc w o y.1 h4];exact h2,h3.mono hle⟩
  ·have key:∀ {d:Nat} {z:Nat × Nat},at_ (pu h nx (some k)) d≠none->ρ.ins nx (w.heap.size,κ) d=some z->(d=nx/\z.1=w.heap.size)\/(d≠nx/\at_ h d≠none/\ρ d=some z/\z.1<w.heap.size):=fun {d z} hd hz=>by
    by_cases e:d=nx
    ·subst e;rw [Rho.ins_self]at hz;cases hz;exact .inl ⟨rfl,rfl⟩
    ·rw [at_ne e]at hd;have hz':ρ d=some z:=by simpa [Rho.ins,e] using hz
     refine .inr ⟨e,hd,hz',?_⟩;cases hq:at_ h d with
     | none=>exact absurd hq hd
     | some q=>
      obtain⟨y,o2,g1,g2,_,g4⟩:=R.lt hq;rw [hz']at g1;cases g1;exact g4
   rcases key h1 h3 with⟨a1,a2⟩ | ⟨a1,a2,a3,a4⟩ <;> rcases key h2 h4 with⟨b1,b2⟩ | ⟨b1,b2,b3,b4⟩
   ·omega
   ·omega
   ·omega
   ·exact R.inj c c' y y' a2 b2 a3 b3 h5
  ·unfold Rho.ins at hy;split at hy
   ·cases hy;exact R.below.size
   ·exact R.new c y hy
  ·have:c≠nx:=by omega
   simp only [Rho.ins,a2e this];exact R.fresh c (by omega) hc2
  ·have:=R.lo;have:c≠nx:=by omega
   simp only [Rho.ins,a2e this];exact R.out c hc
 ·cases e
theorem aKJ {g:G} {ρ:Rho} {h:Tr Blk} {nx:Nat} {w:World} (R:Rel g ρ h nx w) {b:Nat} {h1:Tr Blk} {n1:Nat} {m:List Fp} (e:pDel b h nx=some ((),h1,n1,m)):Rel g ρ h1 n1 w:=by
 unfold pDel at e
 split at e
 ·cases e;refine⟨fun c q hc=>?_,fun c c' y y' h1 h2=>R.inj c c' y y' (fun e=>h1 ?_) (fun e=>h2 ?_),R.new,R.below,R.lo,R.fresh,R.le,R.out⟩
  ·rw [gL]at hc;split at hc
   ·cases hc
   ·exact R.blk c q hc
  ·rw [gL];split
   ·rfl
   ·exact e
  ·rw [gL];split
   ·rfl
   ·exact e
 ·cases e
theorem oE {g:G} {ρ:Rho} {h:Tr Blk} {nx:Nat} {w:World} (R:Rel g ρ h nx w) {b:Nat} {o:Ob} {h1:Tr Blk} {n1:Nat} {m:List Fp} (e:qQ b h nx=some (o,h1,n1,m)):
 ∃ x o',ρ b=some x/\w.heap[x.1]? =some o'/\obR ρ o o'/\at_ h b=some (.obj o)/\h1=h/\n1=nx:=by
 unfold qQ at e
 split at e
 ·rename_i hb;cases e
  obtain⟨x,o',h1,h2,h3⟩:=R.blk b _ hb;exact⟨x,o',h1,h2,h3,hb,rfl,rfl⟩
 ·cases e
theorem vY {g:G} {ρ:Rho} {h:Tr Blk} {nx:Nat} {w:World} (R:Rel g ρ h nx w) {b:Nat} {o:Ob} {x:Nat × Nat} {o1:Obj} {h1:Tr Blk} {n1:Nat} {m:List Fp} (e:sD b o h nx=some ((),h1,n1,m)) (hx:ρ b=some x) (ho:obR ρ o o1):
 Rel g ρ h1 n1 { w with heap:=w.heap.setIfInBounds x.1 o1 }:=by
 unfold sD at e
 split at e
 ·rename_i o0 hb;cases e
  obtain⟨y,o',h1,h2,h3,h4⟩:=R.lt hb;rw [hx]at h1;cases h1
  refine R.write hb hx ?_ (fun c hc=>?_) (by simp) rfl rfl rfl ho
  ·simp [h4]
  ·simp [a0f (Ne.symm hc)]
 ·cases e
end
open RowKit (Below)
noncomputable section
section
variable {P:Program}
theorem tL {t:Nat} {i:TypeInfo} (h:info P t=some i):P.info? t=some i:=by
 have e:at_ (vE P.types.toList 0 .leaf fun t=>t) t=some i:=h
 rw [aCE]at e
 split at e
 ·rename_i hlt;have:t<P.types.size:=by simpa using hlt.2
  unfold Tables.info?
  rw [a2f this];simpa using e
 ·rw [zO]at e;cases e
theorem dY {t:Nat} {d:TypeDesc} (h:und P t=some d):P.underlying t=some d:=by
 unfold und at h
 unfold Program.underlying
 cases hi:info P t with
 | none=>rw [hi]at h;cases h
 | some i=>
  rw [hi]at h;rw [tL hi];simp only [und1]at h ⊢;obtain⟨desc,a1,a2,a3,a4,a5,a6,a7,a8,a9⟩:=i;cases desc <;> first
   | exact h
   | (rename_i nm u
      simp only at h ⊢
      cases hu:info P u with
      | none=>rw [hu]at h;cases h
      | some j=>rw [hu]at h;rw [tL hu];exact h)
theorem vM {t n:Nat} (h:szT P t=some n):∃ i,P.info? t=some i/\i.size=n:=by
 unfold szT at h
 cases hi:info P t with
 | none=>rw [hi]at h;cases h
 | some i=>rw [hi]at h;cases h;exact⟨i,tL hi,rfl⟩
theorem zer_tv {t:Nat} {z:V} (ρ:Rho) (h:zer P t=some z):∃ i zv,P.info? t=some i/\i.zero=some zv/\tv ρ z=some zv:=by
 unfold zer at h
 cases hi:info P t with
 | none=>rw [hi]at h;cases h
 | some i=>
  rw [hi]at h;simp only at h
  cases hz:i.zero with
  | none=>rw [hz]at h;cases h
  | some zv=>rw [hz]at h;exact⟨i,zv,tL hi,hz,xD ρ zv h⟩
theorem lJ {t:Nat} {z:V} {ρ:Rho} (h:zer P t=some z) (w:World):∃ zv,(zeroValue t).run P w= .ok zv w/\tv ρ z=some zv:=by
 obtain⟨i,zv,h1,h2,h3⟩:=zer_tv ρ h
 exact⟨zv,by simp [zeroValue,a1Y,SX.run_typeInfo h1,h2,Sem.run,pure],h3⟩
theorem aAJ {t n:Nat} (h:szT P t=some n) (w:World):(sizeOf t).run P w= .ok n w:=by
 obtain⟨i,h1,rfl⟩:=vM h
 exact SX.run_sizeOf h1 w
theorem aGH {t:Nat} {s:Option Nat} (h:shp P t=some s) (w:World):(isAgg t).run P w= .ok s.isSome w/\∀ n,s=some n->(sizeOf t).run P w= .ok n w:=by
 unfold shp at h
 cases hu:und P t with
 | none=>rw [hu]at h;cases h
 | some d=>
  rw [hu]at h;have hU:=SX.run_underlying (dY hu) w;cases d <;> simp only at h <;> first
   | (cases h;exact⟨by simp [isAgg,a1Y,hU,Sem.run,pure],fun n e=>by cases e⟩)
   | (cases hs:szT P t with
      | none=>rw [hs]at h;cases h
      | some m=>rw [hs]at h;cases h;exact⟨by simp [isAgg,a1Y,hU,Sem.run,pure],fun n e=>by cases e;exact aAJ hs w⟩)
end
def OkV (P:Program) (o:Oper) (a:Act) (w:World) (g:G) (ρ:Rho) (r:O × S) (kv:KV):Prop:=
 ∃ v x ρ' h' nx' lg' w',((execOp a.eval o).run P w= .ok (.value x) w'\/((execOp a.eval o).run P w= .ok .skip w'/\x=undef))/\ρ.le ρ'/\Rel g ρ' h' nx' w'/\tv ρ' v=some x/\run (kv v) h' nx' lg'=some r
section
variable {P:Program} {o:Oper} {a:Act} {w:World} {g:G} {ρ:Rho} {r:O × S} {kv:KV} {kp:List PE->AL} {kd:Df->AL} {e:Tr V} {n:Nat} {h:Tr Blk} {nx:Nat} {lg:List Fp} {ex:Ex}
theorem OkV.pure {v:V} {x:Value} (R:Rel g ρ h nx w) (hx:(execOp a.eval o).run P w= .ok (.value x) w) (ht:tv ρ v=some x) (q:run (kv v) h nx lg=some r):OkV P o a w g ρ r kv:=
 ⟨v,x,ρ,h,nx,lg,w, .inl hx,Rho.le_refl ρ,R,ht,q⟩
theorem rN {k:IntKind} {n:Int} {x:Value} (h:tv ρ (.int k n)=some x):x= .int k n:=by cases h;rfl
theorem aFS {b:Bool} {x:Value} (h:tv ρ (.bool b)=some x):x= .bool b:=by cases h;rfl
theorem lS {b off:Nat} {x:Value} (h:tv ρ (.ptr b off)=some x):∃ y,ρ b=some y/\x= .pointer (some ⟨y.1,off,none⟩):=by
 simp only [tv,a1T]at h
 obtain⟨y,h1,rfl⟩:=h;exact⟨y,h1,rfl⟩
theorem tv_tup {l:List V} {x:Value} (h:tv ρ (.tup l)=some x):∃ r,tvs ρ l=some r/\x= .tuple ⟨r⟩:=by
 simp only [tv]at h
 cases ha:tvs ρ l with
 | none=>rw [ha]at h;cases h
 | some r=>rw [ha]at h;cases h;exact⟨r,rfl,rfl⟩
theorem s_move {x:Operand} (ho:o.op= .move x\/o.op= .assign x) (he:cA ρ e n a.tmps) (R:Rel g ρ h nx w) (q:run (pZ x P ex e kv kp kd) h nx lg=some r):OkV P o a w g ρ r kv:=by
 obtain⟨v,h1,q1⟩:=gM q
 exact .pure R (by rcases ho with ho | ho <;> simp [execOp,ho,Sem.run,Pure.pure]) (dH he h1) q1
theorem s_pick {c x y:Operand} (ho:o.op= .pick c x y) (he:cA ρ e n a.tmps) (R:Rel g ρ h nx w) (q:run (zX c x y P ex e kv kp kd) h nx lg=some r):OkV P o a w g ρ r kv:=by
 obtain⟨v,u,t,h1,h2,h3,q1⟩:=aEQ q
 obtain⟨b,rfl,q2⟩:=aHP q1
 have hb:=aFS (dH he h1)
 cases b with
 | true=>exact .pure R (by simp [execOp,ho,hb,Go.asBool,a1Y,Sem.run,Pure.pure]) (dH he h2) q2
 | false=>exact .pure R (by simp [execOp,ho,hb,Go.asBool,a1Y,Sem.run,Pure.pure]) (dH he h3) q2
theorem aFz {t:Nat} {s:Option Nat} {b off:Nat} {y:Nat × Nat} {k:V->AL} (R:Rel g ρ h nx w) (hs:shp P t=some s) (hb:ρ b=some y) (q:run (loadS s b off k) h nx lg=some r):
 ∃ v x lg',(loadVar t ⟨y.1,off,none⟩).run P w= .ok x w/\tv ρ v=some x/\run (k v) h nx lg'=some r:=by
 obtain⟨hA,hsz⟩:=aGH hs w
 rcases kZ q with⟨rfl,q1⟩ | ⟨m,rfl,q1⟩
 ·rw [aGk]at q1;obtain⟨v,h1,n1,l,e1,q2⟩:=dW q1;obtain⟨x,u,h2,h3,h4,_,rfl,rfl⟩:=aI9 R e1;rw [hb]at h2;cases h2
  exact⟨v,u,_,by simp [loadVar,a1Y,hA,Go.load,Sem.run,h3],h4,q2⟩
 ·have hm:=hsz m rfl;rcases iK q1 with⟨h0,q3⟩ | ⟨_,q3⟩
  ·have:=a1F h0;subst this;exact⟨.agg [], .agg #[],lg,by simp [loadVar,a1Y,hA,hm,loadCells,loadCellsFrom,Sem.run,Pure.pure],rfl,q3⟩
  ·rw [aCU]at q3;obtain⟨v,h1,n1,l,e1,q4⟩:=dW q3;obtain⟨x,rr,h2,h3,h4,_,rfl,rfl⟩:=aEe (P:=P) R e1;rw [hb]at h2;cases h2
   exact⟨.agg v, .agg ⟨rr⟩,_,by simp [loadVar,a1Y,hA,hm,h3,Sem.run,Pure.pure],aBo h4,q4⟩
theorem s_load {t:Nat} {x:Operand} (ho:o.op= .load t x) (he:cA ρ e n a.tmps) (R:Rel g ρ h nx w) (q:run (aAI t x P ex e kv kp kd) h nx lg=some r):OkV P o a w g ρ r kv:=by
 obtain⟨v,h1,q1⟩:=gM q
 obtain⟨s,hs,q2⟩:=bW q1
 obtain⟨b,off,rfl,q3⟩:=xT q2
 obtain⟨y,hb,hx⟩:=lS (dH he h1)
 obtain⟨u,z,lg',h2,h3,q4⟩:=aFz R hs hb q3
 exact .pure R (by simp [execOp,ho,hx,Instr.loadAt,Instr.sureAddr,a1Y,h2,Sem.run,Pure.pure]) h3 q4
theorem s_store {t:Nat} {x y:Operand} (ho:o.op= .store t x y) (he:cA ρ e n a.tmps) (R:Rel g ρ h nx w) (q:run (yM t x y P ex e kv kp kd) h nx lg=some r):OkV P o a w g ρ r kv:=by
 obtain⟨p,v,h1,h2,q1⟩:=tX q
 obtain⟨sz,hs,q2⟩:=bW q1
 obtain⟨b,off,rfl,q3⟩:=xT q2
 obtain⟨c,hc,q4⟩:=bW q3
 obtain⟨hlen,q5⟩:=dT q4
 rw [ln0]at hlen
 have hlen:=a1F hlen
 obtain⟨y',hb,hx⟩:=lS (dH he h1)
 have hcc:=xF hc (dH he h2)
 have hl:=hcc.len
 have hsz:=aAJ hs w
 rcases iK q5 with⟨h0,q6⟩ | ⟨_,q6⟩
 ·have:=a1F h0;subst this;have h0':(a.eval y).cells.toList=[]:=a0z (by omega)
  have h0s:(a.eval y).cells.size=0:=by rw [<- a0h,h0'];rfl
  refine⟨eX,undef,ρ,h,nx,lg,w, .inr ⟨?_,rfl⟩,Rho.le_refl ρ,R,rfl,q6⟩;simp [execOp,ho,hx,Instr.storeAt,Instr.sureAddr,storeVar,a1Y,hsz,h0s,h0',storeCells,Sem.run,Pure.pure]
 ·rw [aAG]at q6;obtain⟨_,h1',n1,l,e1,q7⟩:=dW q6;obtain⟨y2,w',g1,g2,g3⟩:=aA1 (P:=P) R e1 hcc;rw [hb]at g1;cases g1
  have h0s:(a.eval y).cells.size=sz:=by rw [<- a0h];omega
  refine⟨eX,undef,ρ,h1',n1,_,w', .inr ⟨?_,rfl⟩,Rho.le_refl ρ,g3,rfl,q7⟩;simp [execOp,ho,hx,Instr.storeAt,Instr.sureAddr,storeVar,a1Y,hsz,h0s,g2,Sem.run,Pure.pure]
theorem aBt {c:List V} {l:List Value} {t:Nat} {k:Nat->AL} (R:Rel g ρ h nx w) (hc:cells ρ c l) (hi:r.2.nx<=g.hi) (q:run (.new c t 0 k) h nx lg=some r):
 ∃ b ρ' h' nx' lg',(Go.newRow t ⟨l⟩).run P w= .ok ⟨w.heap.size,0,none⟩ (w.alloc (.cells ⟨l⟩ t))/\ρ.le ρ'/\Rel g ρ' h' nx' (w.alloc (.cells ⟨l⟩ t))/\(∃ κ,ρ' b=some (w.heap.size,κ))/\run (k b) h' nx' lg'=some r:=by
 rw [aBD]at q
 obtain⟨b,h1,n1,m,e1,q1⟩:=dW q
 have hn1:=a1J (tA q1) hi
 have hn:ρ nx=none:=by
  unfold jH at e1;split at e1
  ·cases e1;exact R.fresh nx (a1I _) hn1
  ·cases e1
 have hle:=Rho.le_ins (x:=(w.heap.size,0)) hn
 obtain⟨rfl,h2,h3⟩:=aAA R e1 hn1 0 (.cells ⟨l⟩ t) ⟨rfl,rfl,l,[],hc.mono hle,by simp,fun _=>rfl,fun h=>absurd h (Nat.lt_irrefl 0)⟩
 exact⟨b,_,h1,n1,_,by simp [newRow,newObj,a1Y,Sem.run,Pure.pure],h2,h3,⟨0,Rho.ins_self⟩,q1⟩
theorem yW {b off:Nat} {x κ:Nat} (h:ρ b=some (x,κ)):tv ρ (.ptr b off)=some (.pointer (some ⟨x,off,none⟩)):=by simp [tv,h]
theorem s_alloc {t:Nat} (ho:o.op= .alloc t) (hi:r.2.nx<=g.hi) (R:Rel g ρ h nx w) (q:run (aAT t P ex e kv kp kd) h nx lg=some r):OkV P o a w g ρ r kv:=by
 obtain⟨z,hz,q1⟩:=bW q
 obtain⟨c,hc,q2⟩:=bW q1
 obtain⟨zv,h1,h2⟩:=lJ (ρ:=ρ) hz w
 obtain⟨b,ρ',h',nx',lg',g1,g2,g3,⟨κ,g4⟩,q3⟩:=aBt (P:=P) R (xF hc h2) hi q2
 refine⟨.ptr b 0,_,ρ',h',nx',lg',_, .inl ?_,g2,g3,yW g4,q3⟩
 simp [execOp,ho,Instr.alloc,a1Y,h1,newVar,g1,Sem.run,Pure.pure]
theorem s_box {t:Nat} {x:Operand} (ho:o.op= .box t x) (he:cA ρ e n a.tmps) (hi:r.2.nx<=g.hi) (R:Rel g ρ h nx w) (q:run (hBox t x P ex e kv kp kd) h nx lg=some r):OkV P o a w g ρ r kv:=by
 obtain⟨v,h1,q1⟩:=gM q
 obtain⟨c,hc,q2⟩:=bW q1
 obtain⟨b,ρ',h',nx',lg',g1,g2,g3,⟨κ,g4⟩,q3⟩:=aBt (P:=P) R (xF hc (dH he h1)) hi q2
 refine⟨.ptr b 0,_,ρ',h',nx',lg',_, .inl ?_,g2,g3,yW g4,q3⟩
 simp [execOp,ho,Instr.box,a1Y,newVar,g1,Sem.run,Pure.pure]
theorem s_nil {x:Operand} (ho:o.op= .nilCheck x) (he:cA ρ e n a.tmps) (R:Rel g ρ h nx w) (q:run (hNil x P ex e kv kp kd) h nx lg=some r):OkV P o a w g ρ r kv:=by
 obtain⟨v,h1,q1⟩:=gM q
 have ht:=dH he h1
 have key:run (kv v) h nx lg=some r/\(execOp a.eval o).run P w= .ok (.value (a.eval x)) w:=by
  cases v <;> first
   | (cases q1;done)
   | skip
  ·obtain⟨y,_,hx⟩:=lS ht;exact⟨q1,by simp [execOp,ho,hx,Sem.run,Pure.pure]⟩
  ·simp only [tv]at ht;rename_i f a1 c1;cases ha:tvs ρ a1 with
   | none=>rw [ha]at ht;cases ht
   | some y=>
    rw [ha]at ht;simp only at ht
    cases hc:tvs ρ c1 with
    | none=>rw [hc]at ht;cases ht
    | some z=>rw [hc]at ht;simp only [a1W]at ht;exact⟨q1,by simp [execOp,ho,<- ht,Sem.run,Pure.pure]⟩
  ·simp only [tv,a1T]at ht;obtain⟨y,_,hx⟩:=ht;exact⟨q1,by simp [execOp,ho,<- hx,Sem.run,Pure.pure]⟩
 exact .pure R key.2 ht key.1
theorem s_ext {x:Operand} {i:Nat} (ho:o.op= .extract x i) (he:cA ρ e n a.tmps) (R:Rel g ρ h nx w) (q:run (hExt x i P ex e kv kp kd) h nx lg=some r):OkV P o a w g ρ r kv:=by
 obtain⟨v,h1,q1⟩:=gM q
 obtain⟨l,rfl,q2⟩:=aI8 q1
 obtain⟨u,h2,q3⟩:=bW q2
 obtain⟨rr,h3,hx⟩:=tv_tup (dH he h1)
 rw [mS]at h2
 obtain⟨y,h4,h5⟩:=aBY h3 h2
 exact .pure R (by simp [execOp,ho,hx,Instr.extract,h4,a1Y,Sem.run,Pure.pure]) h5 q3
theorem aF7 {t:Nat} (hh:noIf P t=true):∃ d,P.underlying t=some d/\∀ ms,d≠ .interface ms:=by
 unfold noIf at hh
 cases hu:und P t with
 | none=>rw [hu]at hh;cases hh
 | some d=>
  refine⟨d,dY hu,fun ms e=>?_⟩
  subst e;rw [hu]at hh;cases hh
theorem s_mkI {t:Nat} {x:Operand} (ho:o.op= .makeInterface t x) (he:cA ρ e n a.tmps) (R:Rel g ρ h nx w) (q:run (hMkI t x P ex e kv kp kd) h nx lg=some r):OkV P o a w g ρ r kv:=by
 obtain⟨v,h1,q1⟩:=gM q
 obtain⟨hn,q2⟩:=dT q1
 obtain⟨d,hd,hni⟩:=aF7 hn
 have hU:=SX.run_underlying hd w
 refine .pure (x:= .iface t (a.eval x)) R ?_ (by simp only [tv,dH he h1]) q2
 cases d <;> first
  | exact absurd rfl (hni _)
  | simp [execOp,ho,Instr.makeInterface,a1Y,hU,Sem.run,Pure.pure]
theorem s_mkF {fn:Fn} {f c:Array Operand} (ho:o.op= .makeFunc fn f c) (he:cA ρ e n a.tmps) (R:Rel g ρ h nx w) (q:run (hMkF fn f c P ex e kv kp kd) h nx lg=some r):OkV P o a w g ρ r kv:=by
 obtain⟨gf,h1,q1⟩:=bW q
 obtain⟨fs,h2,q2⟩:=kQ q1
 obtain⟨cs,h3,q3⟩:=kQ q2
 have:fn= .func gf:=by cases fn <;> first | (cases h1;rfl) | cases h1
 subst this
 have hf:=jZ he h2
 have hc:=jZ he h3
 refine .pure (x:= .func (.func gf) (f.map a.eval) (c.map a.eval)) R (by simp [execOp,ho,Instr.makeFunc,a1Y,Sem.run,Pure.pure]) ?_ q3
 simp only [tv,hf,hc]
 rw [<- Array.toList_map,<- Array.toList_map]
theorem s_mapN {t:Nat} {rr:Option Operand} (ho:o.op= .makeMap t rr) (hi:r.2.nx<=g.hi) (R:Rel g ρ h nx w) (q:run (hMapN t rr P ex e kv kp kd) h nx lg=some r):OkV P o a w g ρ r kv:=by
 rcases kZ q with⟨rfl,q1⟩ | ⟨_,_,q1⟩
 ·rw [aB7]at q1;obtain⟨b,h1,n1,m,e1,q2⟩:=dW q1;obtain⟨rfl,h2,h3⟩:=aAA R e1 (a1J (tA q2) hi) 0 (.map #[] 0) ⟨rfl,trivial⟩;refine⟨.map b, .map (some w.heap.size),_,h1,n1,_,_, .inl ?_,h2,h3,by simp [tv,Rho.ins_self],q2⟩
  simp [execOp,ho,Instr.makeMap,newObj,a1Y,Sem.run,Pure.pure]
 ·cases q1
end
end
open RowKit (Below)
noncomputable section
section
variable {P:Program} {o:Oper} {a:Act} {w:World} {g:G} {ρ:Rho} {r:O × S} {kv:KV} {kp:List PE->AL} {kd:Df->AL} {e:Tr V} {n:Nat} {h:Tr Blk} {nx:Nat} {lg:List Fp} {ex:Ex}
theorem aHL {t f:Nat} {q:Nat × Nat} (hf:fldOf P t f=some q):∃ fs fd,P.underlying t=some (.struct fs)/\fs[f]? =some fd/\fd.offset=q.1/\fd.type=q.2:=by
 unfold fldOf at hf
 split at hf
 ·rename_i fs hu;split at hf
  ·rename_i fd hn;cases hf;rw [mS]at hn;exact⟨fs,fd,dY hu,by simpa using hn,rfl,rfl⟩
  ·cases hf
 ·cases hf
theorem fldA_eq {t f k:Nat} (hf:fldA P t f=some k):∃ fs fd i,P.underlying t=some (.struct fs)/\fs[f]? =some fd/\fd.offset=k/\P.info? fd.type=some i/\i.size≠0:=by
 unfold fldA at hf
 split at hf
 ·rename_i k' ft hq;split at hf
  ·rename_i m hs;split at hf
   ·rename_i hpos;cases hf;obtain⟨fs,fd,h1,h2,h3,h4⟩:=aHL hq;simp only at h3 h4
    subst h3 h4;obtain⟨i,h5,h6⟩:=vM hs;rw [a1E]at hpos;exact⟨fs,fd,i,h1,h2,rfl,h5,by omega⟩
   ·cases hf
  ·cases hf
 ·cases hf
theorem aI0 {k:Nat} {d:AL} {f:Nat->AL} (q:run (fA k d f) h nx lg=some r):run (f k) h nx lg=some r:=q
theorem nU {y off k:Nat}:Addr.add ⟨y,off,none⟩ k=⟨y,off+k,none⟩:=aAl y off k
theorem s_fieldA {t f:Nat} {x:Operand} (ho:o.op= .fieldAddr t x f) (he:cA ρ e n a.tmps) (R:Rel g ρ h nx w) (q:run (aAk t x f P ex e kv kp kd) h nx lg=some r):OkV P o a w g ρ r kv:=by
 obtain⟨v,h1,q1⟩:=gM q
 obtain⟨k,hk,q2⟩:=bW q1
 obtain⟨b,off,rfl,q3⟩:=xT q2
 have q4:=aI0 q3
 obtain⟨y,hb,hx⟩:=lS (dH he h1)
 obtain⟨fs,fd,i,g1,g2,g3,g4,g5⟩:=fldA_eq hk
 refine .pure (x:= .pointer (some ⟨y.1,off+k,none⟩)) R ?_ (yW (κ:=y.2) hb) q4
 simp [execOp,ho,hx,Instr.fieldAt,Instr.sureAddr,fieldPlace,a1Y,SX.run_underlying g1,g2,SX.run_sizeOf g4,g5,Sem.run,Pure.pure,nU,g3]
theorem aGj {t off:Nat} {s:Option Nat} {cs:List V} {l:List Value} {k:V->AL} (hs:shp P t=some s) (hc:cells ρ cs l) (q:run (partV s off cs k) h nx lg=some r):
 ∃ v x,(part t ⟨l⟩ off).run P w= .ok x w/\tv ρ v=some x/\run (k v) h nx lg=some r:=by
 obtain⟨hA,hsz⟩:=aGH hs w
 rcases kZ q with⟨rfl,q1⟩ | ⟨m,rfl,q1⟩
 ·obtain⟨v,hv,q2⟩:=bW q1;rw [mS]at hv;obtain⟨x,h1,h2,_⟩:=hc.get hv;exact⟨v,x,by simp [part,a1Y,hA,h1,Sem.run,Pure.pure],h2,q2⟩
 ·obtain⟨c',hc',q2⟩:=bW q1;rw [dr_eq,zE]at hc';obtain⟨h1,rfl⟩:=hc';have h2:=(hc.drop off).take m;refine⟨_,_,?_,aBo h2,q2⟩;have h3:((⟨l⟩:Array Value).extract off (off+m))=⟨(l.drop off).take m⟩:=by
   apply Array.ext'
   simp [List.extract_eq_take_drop]
  simp [part,a1Y,hA,hsz m rfl,Sem.run,Pure.pure,h3]
theorem s_field {t f:Nat} {x:Operand} (ho:o.op= .field t x f) (he:cA ρ e n a.tmps) (R:Rel g ρ h nx w) (q:run (aAq t x f P ex e kv kp kd) h nx lg=some r):OkV P o a w g ρ r kv:=by
 obtain⟨v,h1,q1⟩:=gM q
 obtain⟨p,hp,q2⟩:=bW q1
 rcases aHz q2 with⟨cs,rfl,q3⟩ | q3
 ·obtain⟨l,hl,hx⟩:=aCb (dH he h1);unfold fldV at hp;split at hp
  ·rename_i k ft hq;split at hp
   ·rename_i s hs;cases hp;obtain⟨fs,fd,g1,g2,g3,g4⟩:=aHL hq;simp only at g3 g4
    subst g3 g4;obtain⟨u,z,g5,g6,q4⟩:=aGj (w:=w) hs hl q3;exact .pure R (by simp [execOp,ho,hx,Instr.field,Go.asAgg,a1Y,SX.run_underlying g1,g2,g5,Sem.run,Pure.pure]) g6 q4
   ·cases hp
  ·cases hp
 ·cases q3
theorem at_inv {b off es len:Nat} {i:V} {k:V->AL} (q:run (at' b off es len i k) h nx lg=some r):∃ kd j,i= .int kd (.ofNat j)/\j<len/\run (k (.ptr b (off+j*es))) h nx lg=some r:=by
 obtain⟨j,hj,q1⟩:=bW q
 obtain⟨hlt,q2⟩:=dT q1
 obtain⟨kd,rfl⟩:=zM hj
 rw [a1E]at hlt
 exact⟨kd,j,rfl,hlt,q2⟩
theorem nT {b off len cap:Nat} {x:Value} (h:tv ρ (.sl b off len cap)=some x):∃ y,ρ b=some y/\x= .slice (some ⟨y.1,off,none⟩) len cap:=by
 simp only [tv,a1T]at h
 obtain⟨y,h1,rfl⟩:=h;exact⟨y,h1,rfl⟩
theorem pF {b off len es:Nat} {x:Value} (h:tv ρ (.so b off len es)=some x):∃ y,ρ b=some y/\x= .slice (some ⟨y.1,off,none⟩) len (y.2 - off / es):=by
 simp only [tv,a1T]at h
 obtain⟨y,h1,rfl⟩:=h;exact⟨y,h1,rfl⟩
theorem aHy {t el:Nat} (hh:elOf P t=some el):P.underlying t=some (.slice el):=by
 unfold elOf at hh
 split at hh
 ·rename_i u hu;cases hh;exact dY hu
 ·cases hh
theorem arOf_eq {t:Nat} {q:Nat × Nat} (hh:arOf P t=some q):P.underlying t=some (.array q.1 q.2):=by
 unfold arOf at hh
 split at hh
 ·rename_i m u hu;cases hh;exact dY hu
 ·cases hh
theorem ixOf_eq {t:Nat} {q:Nat × Option Nat} (hh:ixOf P t=some q):∃ el i,P.info? el=some i/\i.size=q.1/\(q.2=none/\P.underlying t=some (.slice el)\/∃ m,q.2=some m/\P.underlying t=some (.array m el)):=by
 unfold ixOf at hh
 split at hh
 ·rename_i el hu;split at hh
  ·rename_i es hs;cases hh
   obtain⟨i,h1,h2⟩:=vM hs;exact⟨el,i,h1,h2, .inl ⟨rfl,dY hu⟩⟩
  ·cases hh
 ·rename_i m el hu;split at hh
  ·rename_i es hs;cases hh
   obtain⟨i,h1,h2⟩:=vM hs;exact⟨el,i,h1,h2, .inr ⟨m,rfl,dY hu⟩⟩
  ·cases hh
 ·cases hh
theorem s_idxA {t:Nat} {x ix:Operand} (ho:o.op= .indexAddr t x ix) (he:cA ρ e n a.tmps) (R:Rel g ρ h nx w) (q:run (aAf t x ix P ex e kv kp kd) h nx lg=some r):OkV P o a w g ρ r kv:=by
 obtain⟨v,i,h1,h2,q1⟩:=tX q
 obtain⟨p,hp,q2⟩:=bW q1
 obtain⟨el,inf,g1,g2,g3⟩:=ixOf_eq hp
 have hsz:=SX.run_sizeOf g1 w
 have hv:=dH he h1
 have hi:=dH he h2
 have fin:∀ (y:Nat × Nat) (b off len cap:Nat),ρ b=some y->P.underlying t=some (.slice el)->a.eval x= .slice (some ⟨y.1,off,none⟩) len cap->run (at' b off p.1 len i kv) h nx lg=some r->OkV P o a w g ρ r kv:=by
  intro y b off len cap hb hu hx q3;obtain⟨kd',j,rfl,hj,q4⟩:=at_inv q3;have hj':=rN hi;refine .pure (x:= .pointer (some ⟨y.1,off+j*p.1,none⟩)) R ?_ (yW (κ:=y.2) hb) q4;have h1:(0:Int)<=(j:Int)/\(j:Int)<(len:Int):=by omega
  simp [execOp,ho,hx,hj',Instr.indexAt,asIntOf,a1Y,SX.run_underlying hu,Sem.run,Pure.pure,hsz,g2,nU,hj]
 rcases g3 with⟨g3,hu⟩ | ⟨m,g3,hu⟩
 ·rw [g3]at q2;rcases tY q2 with⟨b,off,len,cap,rfl,q3⟩ | ⟨b,off,len,es,rfl,q3⟩ | ⟨_,q3⟩ | q3
  ·obtain⟨y,hb,hx⟩:=nT hv;exact fin y b off len _ hb hu hx q3
  ·obtain⟨y,hb,hx⟩:=pF hv;exact fin y b off len _ hb hu hx q3
  ·cases q3
  ·cases q3
 ·rw [g3]at q2;obtain⟨b,off,rfl,q3⟩:=xT (v:=v) (f:=fun b off=>at' b off p.1 m i kv) q2
  obtain⟨y,hb,hx⟩:=lS hv;obtain⟨kd',j,rfl,hj,q4⟩:=at_inv q3;have hj':=rN hi;refine .pure (x:= .pointer (some ⟨y.1,off+j*p.1,none⟩)) R ?_ (yW (κ:=y.2) hb) q4;have h1:(0:Int)<=(j:Int)/\(j:Int)<(m:Int):=by omega
  simp [execOp,ho,hx,hj',Instr.indexAt,Instr.sureAddr,asIntOf,a1Y,SX.run_underlying hu,Sem.run,Pure.pure,hsz,g2,nU,hj]
mutual
theorem aAg (ρ:Rho):∀ {v:V} {c:Value},gv v=some c->tv ρ v=some c
 | .int _ _,_,q=>by cases q;rfl
 | .bool _,_,q=>by cases q;rfl
 | .str _,_,q=>by cases q;rfl
 | .ptr _ _,_,q=>by cases q
 | .nilp,_,q=>by cases q;rfl
 | .sl _ _ _ _,_,q=>by cases q
 | .so _ _ _ _,_,q=>by cases q
 | .nils,_,q=>by cases q;rfl
 | .map _,_,q=>by cases q
 | .nilm,_,q=>by cases q;rfl
 | .fn _ _ _,_,q=>by cases q
 | .yld _,_,q=>by cases q
 | .nilf,_,q=>by cases q;rfl
 | .iface t v,c,q=>by
  simp only [gv]at q;cases hq:gv v with
  | none=>rw [hq]at q;cases q
  | some x=>rw [hq]at q;cases q;simp only [tv,aAg ρ hq]
 | .nili,_,q=>by cases q;rfl
 | .agg cs,c,q=>by
  simp only [gv]at q;cases hc:iT cs with
  | false=>rw [hc]at q;cases q
  | true=>
   rw [hc]at q;simp only at q
   cases hq:gvs cs with
   | none=>rw [hq]at q;cases q
   | some x=>rw [hq]at q;cases q;simp only [tv,hc,aDH ρ hq]
 | .tup cs,c,q=>by
  simp only [gv]at q;cases hq:gvs cs with
  | none=>rw [hq]at q;cases q
  | some x=>rw [hq]at q;cases q;simp only [tv,aDH ρ hq]
theorem aDH (ρ:Rho):∀ {l:List V} {c:List Value},gvs l=some c->tvs ρ l=some c
 | [],_,q=>by cases q;rfl
 | v :: l,c,q=>by
  simp only [gvs]at q;cases hq:gv v with
  | none=>rw [hq]at q;cases q
  | some x=>
   rw [hq]at q;simp only at q
   cases h2:gvs l with
   | none=>rw [h2]at q;cases q
   | some y=>rw [h2]at q;cases q;exact eQ.2 ⟨x,y,aAg ρ hq,aDH ρ h2,rfl⟩
end
theorem aCO {α:Type}:∀ (m:Sem α) {x:α},aBm P m=some x->m.run P w= .ok x w
 | .pure a,x,q=>by cases q;rfl
 | .program k,x,q=>aCO (k P) q
 | .mark _ k,x,q=>aCO k q
 | .load _ _ _,_,q=>by cases q
 | .store _ _ _ _,_,q=>by cases q
 | .new _ _,_,q=>by cases q
 | .shape _ _,_,q=>by cases q
 | .freeze _ _ _,_,q=>by cases q
 | .frozen _ _,_,q=>by cases q
 | .getObj _ _,_,q=>by cases q
 | .setObj _ _ _,_,q=>by cases q
 | .choose _ _,_,q=>by cases q
 | .sys _ _,_,q=>by cases q
 | .halt _,_,q=>by cases q
theorem aG4 {m:Sem Value} {k:V->AL} (q:run (gen P m k) h nx lg=some r):∃ v x,m.run P w= .ok x w/\tv ρ v=some x/\run (k v) h nx lg=some r:=by
 obtain⟨x,h1,q1⟩:=bW q
 obtain⟨v,h2,q2⟩:=bW q1
 exact⟨v,x,aCO m h1,xD ρ x h2,q2⟩
theorem aHw {m:Value->Sem Value} {v:V} {x:Value} {k:V->AL} (hv:tv ρ v=some x) (q:run (gen1 P m v k) h nx lg=some r):∃ u y,(m x).run P w= .ok y w/\tv ρ u=some y/\run (k u) h nx lg=some r:=by
 obtain⟨c,h1,q1⟩:=bW q
 have:=(aAg ρ h1).symm.trans hv
 cases this
 exact aG4 q1
theorem aHA {m:Value->Value->Sem Value} {v v':V} {x x':Value} {k:V->AL} (hv:tv ρ v=some x) (hv':tv ρ v'=some x') (q:run (gen2 P m v v' k) h nx lg=some r):∃ u y,(m x x').run P w= .ok y w/\tv ρ u=some y/\run (k u) h nx lg=some r:=by
 obtain⟨c,h1,q1⟩:=bW q
 obtain⟨c',h2,q2⟩:=bW q1
 have:=(aAg ρ h1).symm.trans hv
 cases this
 have:=(aAg ρ h2).symm.trans hv'
 cases this
 exact aG4 q2
theorem s_idx {t:Nat} {x ix:Operand} (ho:o.op= .index t x ix) (he:cA ρ e n a.tmps) (R:Rel g ρ h nx w) (q:run (hIdx t x ix P ex e kv kp kd) h nx lg=some r):OkV P o a w g ρ r kv:=by
 obtain⟨v,i,h1,h2,q1⟩:=tX q
 have hv:=dH he h1
 have hi:=dH he h2
 rcases aHz q1 with⟨cs,rfl,q2⟩ | q2
 ·obtain⟨p,hp,q3⟩:=bW q2;obtain⟨es,hes,q4⟩:=bW q3;obtain⟨s,hs,q5⟩:=bW q4;obtain⟨j,hj,q6⟩:=bW q5;obtain⟨hlt,q7⟩:=dT q6;obtain⟨kd',rfl⟩:=zM hj;have hj':=rN hi;obtain⟨l,hl,hx⟩:=aCb hv;obtain⟨u,z,g5,g6,q8⟩:=aGj (w:=w) hs hl q7;rw [a1E]at hlt;have g5':(part p.2 ⟨l⟩ (j*es)).run P w= .ok z w:=g5;exact .pure R (by simp [execOp,ho,hx,hj',Instr.index,asIntOf,a1Y,SX.run_underlying (arOf_eq hp),aAJ hes w,hlt,g5',Sem.run,Pure.pure]) g6 q8
 ·obtain⟨u,y,g1,g2,q3⟩:=aHA (w:=w) hv hi q2;exact .pure R (by simp [execOp,ho,a1Y,g1,Sem.run,Pure.pure]) g2 q3
theorem s_un {op:UnOp} {t:Nat} {x:Operand} (ho:o.op= .unOp op t x) (he:cA ρ e n a.tmps) (R:Rel g ρ h nx w) (q:run (hUn op t x P ex e kv kp kd) h nx lg=some r):OkV P o a w g ρ r kv:=by
 obtain⟨v,h1,q1⟩:=gM q
 have hv:=dH he h1
 have gen:run (gen1 P (Op.unary op) v kv) h nx lg=some r->OkV P o a w g ρ r kv:=fun q2=>by
  obtain⟨u,y,g1,g2,q3⟩:=aHw (w:=w) hv q2;exact .pure R (by simp [execOp,ho,a1Y,g1,Sem.run,Pure.pure]) g2 q3
 cases op with
 | not=>
  obtain⟨b,rfl,q2⟩:=aHP (v:=v) (f:=fun b=>kv (.bool (Bool.not b))) q1
  have hb:=aFS hv;exact .pure (x:= .bool (!b)) R (by simp [execOp,ho,hb,Op.unary,a1Y,Sem.run,Pure.pure]) rfl q2
 | neg=>exact gen q1
 | xor=>exact gen q1
 | plus=>exact gen q1
theorem s_conv {s t:Nat} {x:Operand} (ho:o.op= .convert s t x) (he:cA ρ e n a.tmps) (R:Rel g ρ h nx w) (q:run (aAo s t x P ex e kv kp kd) h nx lg=some r):OkV P o a w g ρ r kv:=by
 obtain⟨v,h1,q1⟩:=gM q
 obtain⟨u,y,g1,g2,q3⟩:=aHw (w:=w) (dH he h1) q1
 exact .pure R (by simp [execOp,ho,a1Y,g1,Sem.run,Pure.pure]) g2 q3
end
end
end Go.BX

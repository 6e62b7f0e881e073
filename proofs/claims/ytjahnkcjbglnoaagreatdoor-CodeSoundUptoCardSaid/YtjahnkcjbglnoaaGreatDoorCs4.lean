/- Parts of the proof: lemmas, and the steps through the program. -/
import Derived.Test.YtjahnkcjbglnoaaGreatDoorCs3
import Derived.Test.YtjahnkcjbglnoaaGreatDoorProg
import Derived.KernelRfl
set_option linter.unusedVariables false
set_option linter.unusedSimpArgs false
set_option maxRecDepth 100000
set_option maxHeartbeats 2000000
namespace Go.Proofs.YtjahnkcjbglnoaaGreatDoor
open Go.SX Go.SW Go.BX
theorem aFS:okB (run0 Tryz.prog 1000000 9) true=true:=by kernel_rfl
def pY:Option Bool:=some true
theorem xI (r:Bool) (H:pY=some r):FnS Tryz.prog 9 [] [] (aS r) (fun _=>[]):=by
 cases H
 obtain⟨s,h⟩:=run_true aFS
 exact aB4 (by kernel_rfl) rfl h
open Go.SX Go.SW Go.Dt
attribute [local irreducible] Code.wpIn wpListIn Exit.then Exit.inBlock
def oQ (a0:Int) (a1:Int):Option (SolVal):=
 some (⟨a0,a1⟩:SolVal)
theorem nS  (a0:Int) (a1:Int) (r:SolVal) (H:oQ a0 a1=some r):FnS Tryz.prog 24 [fI a0,fI a1] [] (fSt aU r) (fun _=>[]):=by
 unfold oQ at H
 refine dN Tryz.func24 rfl Tryz.ntmps24 rfl (fun β=>?_)
 refine Z1 ?_
 refine Tn (cM rfl yH rfl) fun b1=>?_
 refine Z4 ?_
 refine Yy (gF (ψs:=[fI a0,fI a1]) rfl sY rfl (bH.cons (has rfl) (dJ (aG trivial)) (bH.cons (has rfl) (dJ (aG trivial)) bH.nil)) rfl) ?_
 refine cU (φs':=[fI a0,fI a1]) trivial rfl rfl (has rfl) (has rfl) (aM (aG trivial) (aM (aG trivial) bO)) (sz rfl) rfl rfl rfl ?_
 refine Z2 ?_
 cases H
 exact aAX rfl (ag rfl) rfl (iZ rfl) Ent.rfl rfl
def kG (a0:SolVal) (a1:Int) (a2:Int) (a3:Int):Option (Bool):=
 if a0.Kind=1 then
  (if (-1000000000) ≤ a0.N then
   some (decide (a0.N ≤ 1000000000))
  else
   some false).bind fun x1=>
  some x1
 else
  if a0.Kind=2 then
   (if 0 ≤ a0.N then
    some (decide (a0.N<a1))
   else
    some false).bind fun x2=>
   some x2
  else
   if a0.Kind=3 then
    (if 0 ≤ a0.N then
     some (decide (a0.N<a2))
    else
     some false).bind fun x3=>
    some x3
   else
    if a0.Kind=4 then
     (if 0 ≤ a0.N then
      some (decide (a0.N<a3))
     else
      some false).bind fun x4=>
     some x4
    else
     some false
theorem qA  (a0:SolVal) (a1:Int) (a2:Int) (a3:Int) (r:Bool) (H:kG a0 a1 a2 a3=some r):FnS Tryz.prog 25 [fSt aU a0,fI a1,fI a2,fI a3] [] (aS r) (fun _=>[]):=by
 unfold kG at H
 refine dN Tryz.func25 rfl Tryz.ntmps25 rfl (fun β=>?_)
 refine Z1 ?_
 refine Tn (dO rfl hh cO) fun b1=>?_
 refine Z2 ?_
 refine aW ?_
 revert H;refine I9 (fun c1 H=>?_) fun c1 H=>?_
 revert H;refine B1 fun o1 H Hr1=>?_
 refine bD (ι:=Bool) (fun i=>o1=i) (fun i=>[(8,aS i)]) (fun i=>[aA b1 70 [fI a0.Kind,fI a0.N]]) ?_ ?_
 revert H;refine I5 (fun c2 H=>?_) fun c2 H=>?_
 refine Z6 ?_
 exact Tm (decide (a0.N ≤ 1000000000)) (ij H)
 refine Z6 ?_
 exact Tm (false) (ij H)
 clear H;intro x1 hi;subst o1;have H:=Hr1;clear Hr1;try dsimp only at H
 try dsimp only
 refine Z3 ?_
 cases H
 refine aE [] (by decide) ?_
 exact To
 revert H;refine I5 (fun c3 H=>?_) fun c3 H=>?_
 revert H;refine B1 fun o2 H Hr2=>?_
 refine bD (ι:=Bool) (fun i=>o2=i) (fun i=>[(8,aS i)]) (fun i=>[aA b1 70 [fI a0.Kind,fI a0.N]]) ?_ ?_
 revert H;refine I5 (fun c4 H=>?_) fun c4 H=>?_
 refine Z7 ?_
 exact Tm (decide (a0.N<a1)) (ij H)
 refine Z7 ?_
 exact Tm (false) (ij H)
 clear H;intro x2 hi;subst o2;have H:=Hr2;clear Hr2;try dsimp only at H
 try dsimp only
 refine Z3 ?_
 cases H
 refine aE [] (by decide) ?_
 exact To
 revert H;refine I5 (fun c5 H=>?_) fun c5 H=>?_
 revert H;refine B1 fun o3 H Hr3=>?_
 refine bD (ι:=Bool) (fun i=>o3=i) (fun i=>[(8,aS i)]) (fun i=>[aA b1 70 [fI a0.Kind,fI a0.N]]) ?_ ?_
 revert H;refine I5 (fun c6 H=>?_) fun c6 H=>?_
 refine Z7 ?_
 exact Tm (decide (a0.N<a2)) (ij H)
 refine Z7 ?_
 exact Tm (false) (ij H)
 clear H;intro x3 hi;subst o3;have H:=Hr3;clear Hr3;try dsimp only at H
 try dsimp only
 refine Z3 ?_
 cases H
 refine aE [] (by decide) ?_
 exact To
 revert H;refine I5 (fun c7 H=>?_) fun c7 H=>?_
 revert H;refine B1 fun o4 H Hr4=>?_
 refine bD (ι:=Bool) (fun i=>o4=i) (fun i=>[(8,aS i)]) (fun i=>[aA b1 70 [fI a0.Kind,fI a0.N]]) ?_ ?_
 revert H;refine I5 (fun c8 H=>?_) fun c8 H=>?_
 refine Z7 ?_
 exact Tm (decide (a0.N<a3)) (ij H)
 refine Z7 ?_
 exact Tm (false) (ij H)
 clear H;intro x4 hi;subst o4;have H:=Hr4;clear Hr4;try dsimp only at H
 try dsimp only
 refine Z3 ?_
 cases H
 refine aE [] (by decide) ?_
 exact To
 refine Z8 ?_
 cases H
 refine aE [] (by decide) ?_
 exact To
open Go.SX Go.SW Go.Dt
def lA (x9:Int) (y8:CodeAct) (y11:ScopeDef) (z2:Int):Nat → Int → Option ((Unit) ⊕ ((Int × Int × List Bool × List Bool) ⊕ ((Int × Int × List Bool × List Bool) ⊕ ((Int × Int) ⊕ (Bool)))))
| 0,_=>none
| k+1,x23=>
 if x23<(y11.Chans.length:Int)then
  (chk (z2+x23)).bind fun z3=>
  (idx y8.Vals z3).bind fun y12=>
  (chk (x9+x23)).bind fun z4=>
  (oQ 3 z4).bind fun y13=>
  bif decide (y12.Kind=y13.Kind) && decide (y12.N=y13.N)then
   (chk (x23+1)).bind fun z5=>
   lA x9 y8 y11 z2 k z5
  else
   ((((some false).bind fun r=>some (Sum.inr r)).bind fun r=>some (Sum.inr r)).bind fun r=>some (Sum.inr r)).bind fun r=>some (Sum.inr r)
 else
  some (Sum.inl ())
def lC (x10:Int) (y8:CodeAct) (y11:ScopeDef) (z2:Int):Nat → Int → Option ((Unit) ⊕ ((Int × Int × List Bool × List Bool) ⊕ ((Int × Int × List Bool × List Bool) ⊕ ((Int × Int) ⊕ (Bool)))))
| 0,_=>none
| k+1,x25=>
 if x25<(y11.Spots.length:Int)then
  (chk (z2+(y11.Chans.length:Int))).bind fun z6=>
  (chk (z6+x25)).bind fun z7=>
  (idx y8.Vals z7).bind fun y14=>
  (chk (x10+x25)).bind fun z8=>
  (oQ 4 z8).bind fun y15=>
  bif decide (y14.Kind=y15.Kind) && decide (y14.N=y15.N)then
   (chk (x25+1)).bind fun z9=>
   lC x10 y8 y11 z2 k z9
  else
   ((((some false).bind fun r=>some (Sum.inr r)).bind fun r=>some (Sum.inr r)).bind fun r=>some (Sum.inr r)).bind fun r=>some (Sum.inr r)
 else
  some (Sum.inl ())
def lP (a0:CodeProg) (y8:CodeAct) (x18:Int) (x19:Int) (x20:List Bool) (x21:List Bool):Nat → Int → Option ((Int × Int × List Bool × List Bool) ⊕ ((Int × Int) ⊕ (Bool)))
| 0,_=>none
| k+1,x28=>
 if x28<(y8.Vals.length:Int)then
  (idx y8.Vals x28).bind fun y27=>
  (kG y27 a0.Free x18 x19).bind fun y28=>
  bif y28 then
   (chk (x28+1)).bind fun z12=>
   lP a0 y8 x18 x19 x20 x21 k z12
  else
   ((some false).bind fun r=>some (Sum.inr r)).bind fun r=>some (Sum.inr r)
 else
  some (Sum.inl (x18,x19,x20,x21))
def jE (fuel:Nat) (a0:CodeProg) (a1:Ref09_Doing) (y4:(List CodeAct) × Int):Nat → Int → Int → (List Bool) → (List Bool) → Int → Option ((Int × Int) ⊕ (Bool))
| 0,_,_,_,_,_=>none
| k+1,x9,x10,x11,x12,x13=>
 if x13<(y4.1.length:Int)then
  ((idx y4.1 x13).bind fun y8=>
  (if y8.Deed=3 then
   if y8.N<0 then
    (((some false).bind fun r=>some (Sum.inr r)).bind fun r=>some (Sum.inr r)).bind fun r=>some (Sum.inr r)
   else
    if (a0.Defs.length:Int) ≤ y8.N then
     (((some false).bind fun r=>some (Sum.inr r)).bind fun r=>some (Sum.inr r)).bind fun r=>some (Sum.inr r)
    else
     (idx x11 y8.N).bind fun y9=>
     bif y9 then
      (((some false).bind fun r=>some (Sum.inr r)).bind fun r=>some (Sum.inr r)).bind fun r=>some (Sum.inr r)
     else
      (idx x11 y8.N).bind fun y10=>
      (idx a0.Defs y8.N).bind fun y11=>
      (chk ((y8.Vals.length:Int) - (y11.Chans.length:Int))).bind fun z1=>
      (chk (z1 - (y11.Spots.length:Int))).bind fun z2=>
      if z2<0 then
       (((some false).bind fun r=>some (Sum.inr r)).bind fun r=>some (Sum.inr r)).bind fun r=>some (Sum.inr r)
      else
       (lA x9 y8 y11 z2 fuel 0).bind fun o=>match o with
       | Sum.inr r=>some r
       | Sum.inl _=>
       (lC x10 y8 y11 z2 fuel 0).bind fun o=>match o with
       | Sum.inr r=>some r
       | Sum.inl _=>
       (chk (x9+(y11.Chans.length:Int))).bind fun z10=>
       (chk (x10+(y11.Spots.length:Int))).bind fun z11=>
       some (Sum.inl (z10,z11,x11.set y8.N.toNat true,x12))
  else
   if y8.Deed=4 then
    (if y8.N<0 then
     ((((some false).bind fun r=>some (Sum.inr r)).bind fun r=>some (Sum.inr r)).bind fun r=>some (Sum.inr r)).bind fun r=>some (Sum.inr r)
    else
     if (a0.Code.length:Int) ≤ y8.N then
      ((((some false).bind fun r=>some (Sum.inr r)).bind fun r=>some (Sum.inr r)).bind fun r=>some (Sum.inr r)).bind fun r=>some (Sum.inr r)
     else
      (idx x12 y8.N).bind fun y16=>
      bif y16 then
       ((((some false).bind fun r=>some (Sum.inr r)).bind fun r=>some (Sum.inr r)).bind fun r=>some (Sum.inr r)).bind fun r=>some (Sum.inr r)
      else
       (idx a0.Code y8.N).bind fun y17=>
       if y17.Op≠13 then
        (idx a0.Code y8.N).bind fun y18=>
        if y18.Op≠14 then
         (idx a0.Code y8.N).bind fun y19=>
         if y19.Op≠15 then
          ((((some false).bind fun r=>some (Sum.inr r)).bind fun r=>some (Sum.inr r)).bind fun r=>some (Sum.inr r)).bind fun r=>some (Sum.inr r)
         else
          some (Sum.inl ())
        else
         some (Sum.inl ())
       else
        some (Sum.inl ())).bind fun o=>match o with
    | Sum.inr r=>some r
    | Sum.inl _=>
    (idx x12 y8.N).bind fun y20=>
    some (Sum.inl (x9,x10,x11,x12.set y8.N.toNat true))
   else
    (if y8.Deed=1 then
     some (decide (y8.Deed=1))
    else
     some (decide (y8.Deed=2))).bind fun x26=>
    bif x26 then
     if 3<(y8.Vals.length:Int)then
      (((some false).bind fun r=>some (Sum.inr r)).bind fun r=>some (Sum.inr r)).bind fun r=>some (Sum.inr r)
     else
      if y8.Deed=1 then
       (oQ 2 y8.N).bind fun y21=>
       (kG y21 a0.Free x9 x10).bind fun y22=>
       bif !y22 then
        (((some false).bind fun r=>some (Sum.inr r)).bind fun r=>some (Sum.inr r)).bind fun r=>some (Sum.inr r)
       else
        if y8.Deed=2 then
         (oQ 3 y8.N).bind fun y23=>
         (kG y23 a0.Free x9 x10).bind fun y24=>
         bif y24 then
          some (Sum.inl (x9,x10,x11,x12))
         else
          (((some false).bind fun r=>some (Sum.inr r)).bind fun r=>some (Sum.inr r)).bind fun r=>some (Sum.inr r)
        else
         some (Sum.inl (x9,x10,x11,x12))
      else
       if y8.Deed=2 then
        (oQ 3 y8.N).bind fun y25=>
        (kG y25 a0.Free x9 x10).bind fun y26=>
        bif y26 then
         some (Sum.inl (x9,x10,x11,x12))
        else
         (((some false).bind fun r=>some (Sum.inr r)).bind fun r=>some (Sum.inr r)).bind fun r=>some (Sum.inr r)
       else
        some (Sum.inl (x9,x10,x11,x12))
    else
     (((some false).bind fun r=>some (Sum.inr r)).bind fun r=>some (Sum.inr r)).bind fun r=>some (Sum.inr r)).bind fun o=>match o with
  | Sum.inr r=>some r
  | Sum.inl (x18,x19,x20,x21)=>
  (if y8.At≠a1.Here then
   if y8.At<a1.Spots then
    (((some false).bind fun r=>some (Sum.inr r)).bind fun r=>some (Sum.inr r)).bind fun r=>some (Sum.inr r)
   else
    if x19 ≤ y8.At then
     (((some false).bind fun r=>some (Sum.inr r)).bind fun r=>some (Sum.inr r)).bind fun r=>some (Sum.inr r)
    else
     some (Sum.inl ())
  else
   some (Sum.inl ())).bind fun o=>match o with
  | Sum.inr r=>some r
  | Sum.inl _=>
  lP a0 y8 x18 x19 x20 x21 fuel 0).bind fun o=>match o with
  | Sum.inr r=>some r
  | Sum.inl (x14,x15,x16,x17)=>
  (chk (x13+1)).bind fun z13=>
  jE fuel a0 a1 y4 k x14 x15 x16 x17 z13
 else
  some (Sum.inl (x9,x10))
def yE (fuel:Nat) (a0:CodeProg) (a1:Ref09_Doing):Option (Bool):=
 (xU (⟨a0.Free,a0.Defs,a0.Code,a0.Main⟩:CodeProg)).bind fun y1=>
 bif y1 then
  (pY).bind fun y2=>
  some y2
 else
  if 100<(a1.Env.length:Int)then
   (pY).bind fun y3=>
   some y3
  else
   (jU fuel (⟨a0.Free,a0.Defs,a0.Code,a0.Main⟩:CodeProg) a1.Start a1.Here a1.Env a1.Chans a1.Spots).bind fun y4=>
   if y4.2≠0 then
    (if (y4.1.length:Int)=0 then
     (pY).bind fun y5=>
     some y5
    else
     some false).bind fun x1=>
    some x1
   else
    (mk false (a0.Defs.length:Int)).bind fun y6=>
    (mk false (a0.Code.length:Int)).bind fun y7=>
    (jE fuel a0 a1 y4 fuel a1.Chans a1.Spots y6 y7 0).bind fun o=>match o with
    | Sum.inr r=>some r
    | Sum.inl (x2,x3)=>
    (if x2 ≤ 60 then
     if x3 ≤ 24 then
      (pY).bind fun y29=>
      some y29
     else
      some false
    else
     some false).bind fun x29=>
    some x29
theorem aFD (fuel:Nat)  (a0:CodeProg) (a1:Ref09_Doing) (r:Bool) (H:yE fuel a0 a1=some r):FnS Tryz.prog 7 [fSt kK a0,fSt aAM a1] [] (aS r) (fun _=>[]):=by
 unfold yE at H
 refine dN Tryz.func7 rfl Tryz.ntmps7 rfl (fun β=>?_)
 refine Z1 ?_
 refine Tn (dO rfl hh cO) fun b1=>?_
 refine Tn (dO rfl hh cO) fun b2=>?_
 refine Z2 ?_
 refine aW ?_
 revert H;refine B2 fun y1 h1 H=>?_
 refine Tc (aG9 _ _ h1) ?_
 refine Z1 ?_
 revert H;refine cs (fun c1 H=>?_) fun c1 H=>?_
 revert H;refine B8 fun y2 h2 H=>?_
 refine Tc (xI _ h2) ?_
 refine Z3 ?_
 cases H
 refine aE [] (by decide) ?_
 exact To
 revert H;refine I6 (fun c2 H=>?_) fun c2 H=>?_
 revert H;refine B2 fun y3 h3 H=>?_
 refine Tc (xI _ h3) ?_
 refine Z3 ?_
 cases H
 refine aE [] (by decide) ?_
 exact To
 refine Z12 ?_
 revert H;refine B3 fun y4 h4 H=>?_
 refine Tc (aGj _ _ _ _ _ _ _ _ h4) ?_
 refine Z6 ?_
 refine aW ?_
 revert H;refine I4 (fun c3 H=>?_) fun c3 H=>?_
 revert H;refine B1 fun o1 H Hr1=>?_
 refine bD (ι:=Bool) (fun i=>o1=i) (fun i=>[(4,aS i)]) (fun i=>[aA b2 47 [fI a1.Start,fI a1.Here,fSl aU a1.Env,fI a1.Chans,fI a1.Spots],aA b1 25 [fI a0.Free,fSl aF a0.Defs,fSl aJ a0.Code,fI a0.Main]]) ?_ ?_
 revert H;refine I5 (fun c4 H=>?_) fun c4 H=>?_
 revert H;refine bs fun y5 h5 H=>?_
 refine Tc (xI _ h5) ?_
 refine Z3 ?_
 exact Tm (y5) (ij H)
 refine Z4 ?_
 exact Tm (false) (ij H)
 clear H;intro x1 hi;subst o1;have H:=Hr1;clear Hr1;try dsimp only at H
 try dsimp only
 refine Z1 ?_
 cases H
 refine aE [] (by decide) ?_
 exact To
 refine Z3 ?_
 refine aW ?_
 apply cB (ods:=[_,_,_,_,_,_]) 6 0 2 bZ rfl rfl rfl
 refine ND ?_
 refine M6 ?_
 intros
 revert H;refine B6 fun y6 h6 H=>?_
 refine Tn (aAD (t:=dV) (z:=false) rfl hh (et rfl) rfl aA0 rfl h6) fun b3=>?_
 generalize (Value.slice (some ⟨b3,0,none⟩) _ _)=v1
 refine aD 0 rfl (fun hc_v1=>?_)
 revert H;refine B6 fun y7 h7 H=>?_
 refine Tn (aAD (t:=dV) (z:=false) rfl hh (et rfl) rfl aA0 rfl h7) fun b4=>?_
 generalize (Value.slice (some ⟨b4,0,none⟩) _ _)=v2
 refine aD 0 rfl (fun hc_v2=>?_)
 revert H;refine B2 fun o2 H Hr2=>?_
 refine bD (ι:=Int × Int) (fun i=>o2=Sum.inl (i.1,i.2)) (fun i=>[(7,fI i.1),(8,fI i.2)]) (fun i=>[aA b2 47 [fI a1.Start,fI a1.Here,fSl aU a1.Env,fI a1.Chans,fI a1.Spots],aA b1 25 [fI a0.Free,fSl aF a0.Defs,fSl aJ a0.Code,fI a0.Main]]) ?_ ?_
 refine Z4 ?_
 refine aE [2,3,1,0] (by decide) ?_
 refine Tl (ι:=Nat × Int × Int × List Bool × List Bool × Int) (fun i=>jE fuel a0 a1 y4 i.1 i.2.1 i.2.2.1 i.2.2.2.1 i.2.2.2.2.1 i.2.2.2.2.2=_) (fun i=>i.1) (fun i=>[(2,fEq (ptr b1)),(3,fEq (ptr b2)),(5,fSl cH y4.1),(7,fI i.2.1),(8,fI i.2.2.1),(9,fEq v1),(10,fEq v2),(11,fI i.2.2.2.2.2)]) (fun i=>[aA b2 47 [fI a1.Start,fI a1.Here,fSl aU a1.Env,fI a1.Chans,fI a1.Spots],aA b1 25 [fI a0.Free,fSl aF a0.Defs,fSl aJ a0.Code,fI a0.Main],aB v1 4 dV i.2.2.2.1,aB v2 4 dV i.2.2.2.2.1]) (fuel,a1.Chans,a1.Spots,y6,y7,0) H ?_
 clear H;rintro⟨k1,x9,x10,x11,x12,x13⟩ H
 replace H:jE fuel a0 a1 y4 k1 x9 x10 x11 x12 x13=_:=H
 try dsimp only
 obtain _ | k1:=k1
 rw [jE]at H;cases H
 rw [jE]at H
 refine aW ?_
 revert H;refine I6 (fun c5 H=>?_) fun c5 H=>?_
 revert H;refine B3 fun o3 H Hr3=>?_
 refine bD (ι:=Int × Int × List Bool × List Bool) (fun i=>o3=Sum.inl (i.1,i.2.1,i.2.2.1,i.2.2.2)) (fun i=>[(2,fEq (ptr b1)),(3,fEq (ptr b2)),(5,fSl cH y4.1),(7,fI i.1),(8,fI i.2.1),(9,fEq v1),(10,fEq v2),(11,fI x13)]) (fun i=>[aA b2 47 [fI a1.Start,fI a1.Here,fSl aU a1.Env,fI a1.Chans,fI a1.Spots],aA b1 25 [fI a0.Free,fSl aF a0.Defs,fSl aJ a0.Code,fI a0.Main],aB v1 4 dV i.2.2.1,aB v2 4 dV i.2.2.2]) ?_ ?_
 revert H;refine B4 fun y8 h8 H=>?_
 refine Z2 ?_
 refine Tn (cM rfl ty_ze_67 rfl) fun b5=>?_
 refine cU (φs':=[fI y8.Deed,fI y8.At,fI y8.N,fSl aU y8.Vals]) trivial rfl rfl (has rfl) (has rfl) (aM (aG trivial) (aM (aG trivial) (aM (aG trivial) (aM (cR) bO)))) (sz rfl) rfl rfl rfl ?_
 revert H;refine B1 fun o4 H Hr4=>?_
 refine bD (ι:=Int × Int × List Bool × List Bool) (fun i=>o4=Sum.inl (i.1,i.2.1,i.2.2.1,i.2.2.2)) (fun i=>[(2,fEq (ptr b1)),(3,fEq (ptr b2)),(5,fSl cH y4.1),(7,fI i.1),(8,fI i.2.1),(9,fEq v1),(10,fEq v2),(11,fI x13),(12,fEq (ptr b5))]) (fun i=>[aA b5 67 [fI y8.Deed,fI y8.At,fI y8.N,fSl aU y8.Vals],aA b2 47 [fI a1.Start,fI a1.Here,fSl aU a1.Env,fI a1.Chans,fI a1.Spots],aA b1 25 [fI a0.Free,fSl aF a0.Defs,fSl aJ a0.Code,fI a0.Main],aB v1 4 dV i.2.2.1,aB v2 4 dV i.2.2.2]) ?_ ?_
 revert H;refine I9 (fun c6 H=>?_) fun c6 H=>?_
 refine Z1 ?_
 refine aW ?_
 revert H;refine I5 (fun c7 H=>?_) fun c7 H=>?_
 refine Z12 ?_
 revert H;refine B10 fun r1 H e1=>?_
 cases e1;cases Hr4
 revert H;refine B2 fun r2 H e2=>?_
 cases e2;cases Hr3
 revert H;refine B3 fun r3 H e3=>?_
 cases e3;cases Hr2
 cases H
 refine aE [] (by decide) ?_
 exact To
 revert H;refine I8 (fun c8 H=>?_) fun c8 H=>?_
 refine Z12 ?_
 revert H;refine B2 fun r4 H e4=>?_
 cases e4;cases Hr4
 revert H;refine B2 fun r5 H e5=>?_
 cases e5;cases Hr3
 revert H;refine B3 fun r6 H e6=>?_
 cases e6;cases Hr2
 cases H
 refine aE [] (by decide) ?_
 exact To
 revert H;refine B3 fun y9 h9 H=>?_
 refine Z1 ?_
 refine Yh 3 rfl c8 (uX rfl rfl hh (sc rfl) (dU h9) rfl) ?_
 refine Z2 ?_
 revert H;refine cs (fun c9 H=>?_) fun c9 H=>?_
 revert H;refine B7 fun r7 H e7=>?_
 cases e7;cases Hr4
 revert H;refine B2 fun r8 H e8=>?_
 cases e8;cases Hr3
 revert H;refine B3 fun r9 H e9=>?_
 cases e9;cases Hr2
 cases H
 refine aE [] (by decide) ?_
 exact To
 revert H;refine B7 fun y10 h10 H=>?_
 refine Z1 ?_
 refine bI ?_
 refine aBn (z':=true) trivial rfl rfl rfl (has rfl) (has rfl) (aG trivial) (sz rfl) (dU h10) rfl rfl ?_
 revert H;refine B6 fun y11 h11 H=>?_
 refine Z2 ?_
 refine Tn (cM rfl rU rfl) fun b6=>?_
 refine cU (φs':=[fSl dA y11.Chans,fSl cL y11.Spots,fSl bW y11.Rules]) trivial rfl rfl (has rfl) (has rfl) (aM (cR) (aM (cR) (aM (cR) bO))) (sz rfl) rfl rfl rfl ?_
 revert H;refine B8 fun z1 h12 H=>?_
 revert H;refine B4 fun z2 h13 H=>?_
 refine Z3 ?_
 refine aW ?_
 revert H;refine I4 (fun c10 H=>?_) fun c10 H=>?_
 revert H;refine B7 fun r10 H e10=>?_
 cases e10;cases Hr4
 revert H;refine B2 fun r11 H e11=>?_
 cases e11;cases Hr3
 revert H;refine B3 fun r12 H e12=>?_
 cases e12;cases Hr2
 cases H
 refine aE [] (by decide) ?_
 exact To
 revert H;refine B3 fun o5 H Hr5=>?_
 refine bD (ι:=Unit) (fun i=>o5=Sum.inl ()) (fun i=>[(2,fEq (ptr b1)),(3,fEq (ptr b2)),(5,fSl cH y4.1),(7,fI x9),(8,fI x10),(9,fEq v1),(10,fEq v2),(11,fI x13),(12,fEq (ptr b5)),(13,fEq (ptr b6)),(14,fI z2)]) (fun i=>[aA b6 63 [fSl dA y11.Chans,fSl cL y11.Spots,fSl bW y11.Rules],aA b5 67 [fI y8.Deed,fI y8.At,fI y8.N,fSl aU y8.Vals],aA b2 47 [fI a1.Start,fI a1.Here,fSl aU a1.Env,fI a1.Chans,fI a1.Spots],aA b1 25 [fI a0.Free,fSl aF a0.Defs,fSl aJ a0.Code,fI a0.Main],aB v1 4 dV (x11.set y8.N.toNat true),aB v2 4 dV x12]) ?_ ?_
 refine Z4 ?_
 refine aE [0,2,3,4,1,5] (by decide) ?_
 refine Tl (ι:=Nat × Int) (fun i=>lA x9 y8 y11 z2 i.1 i.2=_) (fun i=>i.1) (fun i=>[(2,fEq (ptr b1)),(3,fEq (ptr b2)),(5,fSl cH y4.1),(7,fI x9),(8,fI x10),(9,fEq v1),(10,fEq v2),(11,fI x13),(12,fEq (ptr b5)),(13,fEq (ptr b6)),(14,fI z2),(15,fI i.2)]) (fun i=>[aA b6 63 [fSl dA y11.Chans,fSl cL y11.Spots,fSl bW y11.Rules],aA b5 67 [fI y8.Deed,fI y8.At,fI y8.N,fSl aU y8.Vals],aA b2 47 [fI a1.Start,fI a1.Here,fSl aU a1.Env,fI a1.Chans,fI a1.Spots],aA b1 25 [fI a0.Free,fSl aF a0.Defs,fSl aJ a0.Code,fI a0.Main],aB v1 4 dV (x11.set y8.N.toNat true),aB v2 4 dV x12]) (fuel,0) H ?_
 clear H;rintro⟨k2,x23⟩ H
 replace H:lA x9 y8 y11 z2 k2 x23=_:=H
 try dsimp only
 obtain _ | k2:=k2
 rw [lA]at H;cases H
 rw [lA]at H
 refine aW ?_
 revert H;refine I7 (fun c11 H=>?_) fun c11 H=>?_
 refine Z3 ?_
 refine aW ?_
 refine Z1 ?_
 refine aW ?_
 revert H;refine bs fun z3 h14 H=>?_
 revert H;refine bs fun y12 h15 H=>?_
 revert H;refine bs fun z4 h16 H=>?_
 revert H;refine bs fun y13 h17 H=>?_
 apply cB (ods:=[_,_,_,_,_,_,_,_,_,_,_,_]) 12 0 6 bZ rfl rfl rfl
 refine ND ?_
 refine M8 ?_
 intros
 refine M2 ?_
 intros
 refine Nc (nS _ _ _ h17) fun _=>?_
 refine My (aCW rfl hh hh rfl rfl aDD) fun _=>?_
 refine Z2 ?_
 revert H;refine cs (fun c12 H=>?_) fun c12 H=>?_
 revert H;refine B6 fun z5 h18 H=>?_
 refine Z3 ?_
 exact Tm ((k2,z5)) ⟨H,ls⟩
 revert H;refine B10 fun r13 H e13=>?_
 cases e13;cases Hr5
 revert H;refine B2 fun r14 H e14=>?_
 cases e14;cases Hr4
 revert H;refine B2 fun r15 H e15=>?_
 cases e15;cases Hr3
 revert H;refine B3 fun r16 H e16=>?_
 cases e16;cases Hr2
 cases H
 refine aE [] (by decide) ?_
 exact To
 exact fk
 kernel_rfl
 refine Z6 ?_
 exact Tm (()) (ij H)
 clear H;intro i hi;subst o5;have H:=Hr5;clear Hr5;try dsimp only at H
 try dsimp only
 revert H;refine bs fun o6 H Hr6=>?_
 refine bD (ι:=Unit) (fun i=>o6=Sum.inl ()) (fun i=>[(2,fEq (ptr b1)),(3,fEq (ptr b2)),(5,fSl cH y4.1),(7,fI x9),(8,fI x10),(9,fEq v1),(10,fEq v2),(11,fI x13),(12,fEq (ptr b5)),(13,fEq (ptr b6))]) (fun i=>[aA b6 63 [fSl dA y11.Chans,fSl cL y11.Spots,fSl bW y11.Rules],aA b5 67 [fI y8.Deed,fI y8.At,fI y8.N,fSl aU y8.Vals],aA b2 47 [fI a1.Start,fI a1.Here,fSl aU a1.Env,fI a1.Chans,fI a1.Spots],aA b1 25 [fI a0.Free,fSl aF a0.Defs,fSl aJ a0.Code,fI a0.Main],aB v1 4 dV (x11.set y8.N.toNat true),aB v2 4 dV x12]) ?_ ?_
 refine Z4 ?_
 refine Tl (ι:=Nat × Int) (fun i=>lC x10 y8 y11 z2 i.1 i.2=_) (fun i=>i.1) (fun i=>[(2,fEq (ptr b1)),(3,fEq (ptr b2)),(5,fSl cH y4.1),(7,fI x9),(8,fI x10),(9,fEq v1),(10,fEq v2),(11,fI x13),(12,fEq (ptr b5)),(13,fEq (ptr b6)),(14,fI z2),(16,fI i.2)]) (fun i=>[aA b6 63 [fSl dA y11.Chans,fSl cL y11.Spots,fSl bW y11.Rules],aA b5 67 [fI y8.Deed,fI y8.At,fI y8.N,fSl aU y8.Vals],aA b2 47 [fI a1.Start,fI a1.Here,fSl aU a1.Env,fI a1.Chans,fI a1.Spots],aA b1 25 [fI a0.Free,fSl aF a0.Defs,fSl aJ a0.Code,fI a0.Main],aB v1 4 dV (x11.set y8.N.toNat true),aB v2 4 dV x12]) (fuel,0) H ?_
 clear H;rintro⟨k3,x25⟩ H
 replace H:lC x10 y8 y11 z2 k3 x25=_:=H
 try dsimp only
 obtain _ | k3:=k3
 rw [lC]at H;cases H
 rw [lC]at H
 refine aW ?_
 revert H;refine I7 (fun c13 H=>?_) fun c13 H=>?_
 refine Z3 ?_
 refine aW ?_
 refine Z1 ?_
 refine aW ?_
 revert H;refine bs fun z6 h19 H=>?_
 revert H;refine bs fun z7 h20 H=>?_
 revert H;refine bs fun y14 h21 H=>?_
 revert H;refine bs fun z8 h22 H=>?_
 revert H;refine bs fun y15 h23 H=>?_
 apply cB (ods:=[_,_,_,_,_,_,_,_,_,_,_,_,_,_,_,_]) 16 0 6 bZ rfl rfl rfl
 refine ND ?_
 refine M8 ?_
 intros
 refine M6 ?_
 intros
 refine Nc (nS _ _ _ h23) fun _=>?_
 refine My (aCW rfl hh hh rfl rfl aDD) fun _=>?_
 refine Z2 ?_
 revert H;refine cs (fun c14 H=>?_) fun c14 H=>?_
 revert H;refine B6 fun z9 h24 H=>?_
 refine Z3 ?_
 exact Tm ((k3,z9)) ⟨H,ls⟩
 revert H;refine B10 fun r17 H e17=>?_
 cases e17;cases Hr6
 revert H;refine B2 fun r18 H e18=>?_
 cases e18;cases Hr4
 revert H;refine B2 fun r19 H e19=>?_
 cases e19;cases Hr3
 revert H;refine B3 fun r20 H e20=>?_
 cases e20;cases Hr2
 cases H
 refine aE [] (by decide) ?_
 exact To
 exact fk
 kernel_rfl
 refine Z6 ?_
 exact Tm (()) (ij H)
 clear H;intro i hi;subst o6;have H:=Hr6;clear Hr6;try dsimp only at H
 try dsimp only
 revert H;refine bs fun z10 h25 H=>?_
 revert H;refine bs fun z11 h26 H=>?_
 apply cB (ods:=[_,_,_,_,_,_,_,_,_,_,_,_]) 12 0 6 bZ rfl rfl rfl
 refine ND ?_
 refine M8 ?_
 intros
 refine M4 ?_
 intros
 refine Z4 ?_
 refine aE [1,2,3,4,5] (by decide) ?_
 exact Tm ((z10,z11,x11.set y8.N.toNat true,x12)) (ij H)
 exact fk
 kernel_rfl
 revert H;refine I5 (fun c15 H=>?_) fun c15 H=>?_
 revert H;refine B1 fun o7 H Hr7=>?_
 refine bD (ι:=Unit) (fun i=>o7=Sum.inl ()) (fun i=>[(2,fEq (ptr b1)),(3,fEq (ptr b2)),(5,fSl cH y4.1),(7,fI x9),(8,fI x10),(9,fEq v1),(10,fEq v2),(11,fI x13),(12,fEq (ptr b5))]) (fun i=>[aA b5 67 [fI y8.Deed,fI y8.At,fI y8.N,fSl aU y8.Vals],aA b2 47 [fI a1.Start,fI a1.Here,fSl aU a1.Env,fI a1.Chans,fI a1.Spots],aA b1 25 [fI a0.Free,fSl aF a0.Defs,fSl aJ a0.Code,fI a0.Main],aB v1 4 dV x11,aB v2 4 dV x12]) ?_ ?_
 revert H;refine I5 (fun c16 H=>?_) fun c16 H=>?_
 refine Z12 ?_
 refine Z12 ?_
 refine bE (⟨_,_,_,_,rfl,rfl,rfl,nu⟩) rfl rfl ?_
 refine bE (⟨_,_,_,_,rfl,rfl,rfl,nu⟩) rfl rfl ?_
 refine bE (⟨_,_,_,_,rfl,rfl,rfl,nu⟩) rfl rfl ?_
 refine bE (⟨_,_,_,_,rfl,rfl,rfl,nu⟩) rfl rfl ?_
 refine bE (⟨_,_,_,_,rfl,rfl,rfl,nu⟩) rfl rfl ?_
 refine bE (⟨_,_,_,_,rfl,rfl,rfl,nu⟩) rfl rfl ?_
 refine bE (⟨_,_,_,_,rfl,rfl,rfl,nu⟩) rfl rfl ?_
 refine bE (⟨_,_,_,_,rfl,rfl,rfl,nu⟩) rfl rfl ?_
 refine Z2 ?_
 refine bE (⟨_,_,_,_,rfl,rfl,rfl,nu⟩) rfl rfl ?_
 refine bE (⟨_,_,_,_,rfl,rfl,rfl,nu⟩) rfl rfl ?_
 refine bE (⟨_,_,_,_,rfl,rfl,rfl,nu⟩) rfl rfl ?_
 refine bE (⟨_,_,_,_,rfl,rfl,rfl,nu⟩) rfl rfl ?_
 refine bE (⟨_,_,_,_,rfl,rfl,rfl,nu⟩) rfl rfl ?_
 refine bE (⟨_,_,_,_,rfl,rfl,rfl,nu⟩) rfl rfl ?_
 refine bE (⟨_,_,_,_,rfl,rfl,rfl,nu⟩) rfl rfl ?_
 refine bE (⟨_,_,_,_,rfl,rfl,rfl,nu⟩) rfl rfl ?_
 revert H;refine B8 fun r21 H e21=>?_
 cases e21;cases Hr7
 revert H;refine B2 fun r22 H e22=>?_
 cases e22;cases Hr4
 revert H;refine B2 fun r23 H e23=>?_
 cases e23;cases Hr3
 revert H;refine B3 fun r24 H e24=>?_
 cases e24;cases Hr2
 cases H
 refine aE [] (by decide) ?_
 exact To
 revert H;refine I8 (fun c17 H=>?_) fun c17 H=>?_
 refine Z12 ?_
 refine Z4 ?_
 refine bE (⟨_,_,_,_,rfl,rfl,rfl,nu⟩) rfl rfl ?_
 refine bE (⟨_,_,_,_,rfl,rfl,rfl,nu⟩) rfl rfl ?_
 refine bE (⟨_,_,_,_,rfl,rfl,rfl,nu⟩) rfl rfl ?_
 refine bE (⟨_,_,_,_,rfl,rfl,rfl,nu⟩) rfl rfl ?_
 refine bE (⟨_,_,_,_,rfl,rfl,rfl,nu⟩) rfl rfl ?_
 refine bE (⟨_,_,_,_,rfl,rfl,rfl,nu⟩) rfl rfl ?_
 refine bE (⟨_,_,_,_,rfl,rfl,rfl,nu⟩) rfl rfl ?_
 refine bE (⟨_,_,_,_,rfl,rfl,rfl,nu⟩) rfl rfl ?_
 refine Z2 ?_
 refine bE (⟨_,_,_,_,rfl,rfl,rfl,nu⟩) rfl rfl ?_
 refine bE (⟨_,_,_,_,rfl,rfl,rfl,nu⟩) rfl rfl ?_
 refine bE (⟨_,_,_,_,rfl,rfl,rfl,nu⟩) rfl rfl ?_
 refine bE (⟨_,_,_,_,rfl,rfl,rfl,nu⟩) rfl rfl ?_
 refine bE (⟨_,_,_,_,rfl,rfl,rfl,nu⟩) rfl rfl ?_
 refine bE (⟨_,_,_,_,rfl,rfl,rfl,nu⟩) rfl rfl ?_
 refine bE (⟨_,_,_,_,rfl,rfl,rfl,nu⟩) rfl rfl ?_
 refine bE (⟨_,_,_,_,rfl,rfl,rfl,nu⟩) rfl rfl ?_
 revert H;refine B8 fun r25 H e25=>?_
 cases e25;cases Hr7
 revert H;refine B2 fun r26 H e26=>?_
 cases e26;cases Hr4
 revert H;refine B2 fun r27 H e27=>?_
 cases e27;cases Hr3
 revert H;refine B3 fun r28 H e28=>?_
 cases e28;cases Hr2
 cases H
 refine aE [] (by decide) ?_
 exact To
 revert H;refine B3 fun y16 h27 H=>?_
 refine Z1 ?_
 refine Yh 4 rfl c17 (uX rfl rfl hh (sc rfl) (dU h27) rfl) ?_
 refine Z2 ?_
 revert H;refine cs (fun c18 H=>?_) fun c18 H=>?_
 refine Z9 ?_
 refine bE (⟨_,_,_,_,rfl,rfl,rfl,nu⟩) rfl rfl ?_
 refine bE (⟨_,_,_,_,rfl,rfl,rfl,nu⟩) rfl rfl ?_
 refine bE (⟨_,_,_,_,rfl,rfl,rfl,nu⟩) rfl rfl ?_
 refine bE (⟨_,_,_,_,rfl,rfl,rfl,nu⟩) rfl rfl ?_
 refine bE (⟨_,_,_,_,rfl,rfl,rfl,nu⟩) rfl rfl ?_
 refine bE (⟨_,_,_,_,rfl,rfl,rfl,nu⟩) rfl rfl ?_
 refine bE (⟨_,_,_,_,rfl,rfl,rfl,nu⟩) rfl rfl ?_
 refine bE (⟨_,_,_,_,rfl,rfl,rfl,nu⟩) rfl rfl ?_
 refine Z2 ?_
 refine bE (⟨_,_,_,_,rfl,rfl,rfl,nu⟩) rfl rfl ?_
 refine bE (⟨_,_,_,_,rfl,rfl,rfl,nu⟩) rfl rfl ?_
 refine bE (⟨_,_,_,_,rfl,rfl,rfl,nu⟩) rfl rfl ?_
 refine bE (⟨_,_,_,_,rfl,rfl,rfl,nu⟩) rfl rfl ?_
 refine bE (⟨_,_,_,_,rfl,rfl,rfl,nu⟩) rfl rfl ?_
 refine bE (⟨_,_,_,_,rfl,rfl,rfl,nu⟩) rfl rfl ?_
 refine bE (⟨_,_,_,_,rfl,rfl,rfl,nu⟩) rfl rfl ?_
 refine bE (⟨_,_,_,_,rfl,rfl,rfl,nu⟩) rfl rfl ?_
 revert H;refine B8 fun r29 H e29=>?_
 cases e29;cases Hr7
 revert H;refine B2 fun r30 H e30=>?_
 cases e30;cases Hr4
 revert H;refine B2 fun r31 H e31=>?_
 cases e31;cases Hr3
 revert H;refine B3 fun r32 H e32=>?_
 cases e32;cases Hr2
 cases H
 refine aE [] (by decide) ?_
 exact To
 revert H;refine B4 fun y17 h28 H=>?_
 revert H;refine I5 (fun c19 H=>?_) fun c19 H=>?_
 revert H;refine B4 fun y18 h29 H=>?_
 revert H;refine I6 (fun c20 H=>?_) fun c20 H=>?_
 revert H;refine B4 fun y19 h30 H=>?_
 revert H;refine I7 (fun c21 H=>?_) fun c21 H=>?_
 revert H;refine B5 fun r33 H e33=>?_
 cases e33;cases Hr7
 revert H;refine B2 fun r34 H e34=>?_
 cases e34;cases Hr4
 revert H;refine B2 fun r35 H e35=>?_
 cases e35;cases Hr3
 revert H;refine B3 fun r36 H e36=>?_
 cases e36;cases Hr2
 cases H
 refine aE [] (by decide) ?_
 exact To
 refine Z3 ?_
 exact Tm (()) (ij H)
 refine Z12 ?_
 refine Z2 ?_
 exact Tm (()) (ij H)
 refine Z12 ?_
 refine Z12 ?_
 exact Tm (()) (ij H)
 clear H;intro i hi;subst o7;have H:=Hr7;clear Hr7;try dsimp only at H
 try dsimp only
 revert H;refine B4 fun y20 h31 H=>?_
 refine Z1 ?_
 refine aY ?_
 refine aBn (z':=true) trivial rfl rfl rfl (has rfl) (has rfl) (aG trivial) (sz rfl) (dU h31) rfl rfl ?_
 refine Z3 ?_
 refine aE [1,2,3,4,0] (by decide) ?_
 exact Tm ((x9,x10,x11,x12.set y8.N.toNat true)) (ij H)
 revert H;refine B1 fun o8 H Hr8=>?_
 refine bD (ι:=Bool) (fun i=>o8=i) (fun i=>[(2,fEq (ptr b1)),(3,fEq (ptr b2)),(5,fSl cH y4.1),(7,fI x9),(8,fI x10),(9,fEq v1),(10,fEq v2),(11,fI x13),(12,fEq (ptr b5)),(223,aS i)]) (fun i=>[aA b5 67 [fI y8.Deed,fI y8.At,fI y8.N,fSl aU y8.Vals],aA b2 47 [fI a1.Start,fI a1.Here,fSl aU a1.Env,fI a1.Chans,fI a1.Spots],aA b1 25 [fI a0.Free,fSl aF a0.Defs,fSl aJ a0.Code,fI a0.Main],aB v1 4 dV x11,aB v2 4 dV x12]) ?_ ?_
 revert H;refine I4 (fun c22 H=>?_) fun c22 H=>?_
 refine Z3 ?_
 exact Tm (decide (y8.Deed=1)) (ij H)
 refine Z5 ?_
 exact Tm (decide (y8.Deed=2)) (ij H)
 clear H;intro x26 hi;subst o8;have H:=Hr8;clear Hr8;try dsimp only at H
 try dsimp only
 revert H;refine cs (fun c23 H=>?_) fun c23 H=>?_
 refine Z1 ?_
 refine aW ?_
 revert H;refine is (fun c24 H=>?_) fun c24 H=>?_
 apply cB (ods:=[_,_,_,_,_,_,_,_,_,_,_,_,_,_,_,_,_,_,_,_,_,_,_,_,_,_,_,_,_,_,_,_,_,_,_,_]) 36 0 5 bZ rfl rfl rfl
 refine ND ?_
 refine M8 ?_
 intros
 refine M1 ?_
 intros
 refine dI (od:=odS) rfl (⟨_,_,_,_,rfl,rfl,rfl,nu⟩) rfl (fun _=>?_)
 refine dI (od:=odS) rfl (⟨_,_,_,_,rfl,rfl,rfl,nu⟩) rfl (fun _=>?_)
 refine dI (od:=odS) rfl (⟨_,_,_,_,rfl,rfl,rfl,nu⟩) rfl (fun _=>?_)
 refine dI (od:=odS) rfl (⟨_,_,_,_,rfl,rfl,rfl,nu⟩) rfl (fun _=>?_)
 refine dI (od:=odS) rfl (⟨_,_,_,_,rfl,rfl,rfl,nu⟩) rfl (fun _=>?_)
 refine dI (od:=odS) rfl (⟨_,_,_,_,rfl,rfl,rfl,nu⟩) rfl (fun _=>?_)
 refine dI (od:=odS) rfl (⟨_,_,_,_,rfl,rfl,rfl,nu⟩) rfl (fun _=>?_)
 refine dI (od:=odS) rfl (⟨_,_,_,_,rfl,rfl,rfl,nu⟩) rfl (fun _=>?_)
 refine dI (od:=odS) rfl (⟨_,_,_,_,rfl,rfl,rfl,nu⟩) rfl (fun _=>?_)
 refine M7 ?_
 intros
 refine dI (od:=odS) rfl (⟨_,_,_,_,rfl,rfl,rfl,nu⟩) rfl (fun _=>?_)
 refine dI (od:=odS) rfl (⟨_,_,_,_,rfl,rfl,rfl,nu⟩) rfl (fun _=>?_)
 refine dI (od:=odS) rfl (⟨_,_,_,_,rfl,rfl,rfl,nu⟩) rfl (fun _=>?_)
 refine dI (od:=odS) rfl (⟨_,_,_,_,rfl,rfl,rfl,nu⟩) rfl (fun _=>?_)
 refine dI (od:=odS) rfl (⟨_,_,_,_,rfl,rfl,rfl,nu⟩) rfl (fun _=>?_)
 refine dI (od:=odS) rfl (⟨_,_,_,_,rfl,rfl,rfl,nu⟩) rfl (fun _=>?_)
 refine dI (od:=odS) rfl (⟨_,_,_,_,rfl,rfl,rfl,nu⟩) rfl (fun _=>?_)
 refine dI (od:=odS) rfl (⟨_,_,_,_,rfl,rfl,rfl,nu⟩) rfl (fun _=>?_)
 refine dI (od:=odS) rfl (⟨_,_,_,_,rfl,rfl,rfl,nu⟩) rfl (fun _=>?_)
 refine M2 ?_
 intros
 revert H;refine B9 fun r37 H e37=>?_
 cases e37;cases Hr4
 revert H;refine B2 fun r38 H e38=>?_
 cases e38;cases Hr3
 revert H;refine B3 fun r39 H e39=>?_
 cases e39;cases Hr2
 cases H
 refine aE [] (by decide) ?_
 exact To
 exact fk
 kernel_rfl
 revert H;refine is (fun c25 H=>?_) fun c25 H=>?_
 revert H;refine bs fun y21 h32 H=>?_
 revert H;refine bs fun y22 h33 H=>?_
 revert H;refine cs (fun c26 H=>?_) fun c26 H=>?_
 apply cB (ods:=[_,_,_,_,_,_,_,_,_,_,_,_,_,_,_,_,_,_,_,_,_,_,_,_,_,_,_,_,_,_,_,_,_,_,_,_]) 36 0 5 bZ rfl rfl rfl
 refine ND ?_
 refine M8 ?_
 intros
 refine M3 ?_
 intros
 refine Nc (nS _ _ _ h32) fun _=>?_
 refine M4 ?_
 intros
 refine Nc (qA _ _ _ _ _ h33) fun _=>?_
 refine M8 ?_
 intros
 refine dI (od:=odS) rfl (⟨_,_,_,_,rfl,rfl,rfl,nu⟩) rfl (fun _=>?_)
 refine dI (od:=odS) rfl (⟨_,_,_,_,rfl,rfl,rfl,nu⟩) rfl (fun _=>?_)
 refine dI (od:=odS) rfl (⟨_,_,_,_,rfl,rfl,rfl,nu⟩) rfl (fun _=>?_)
 refine dI (od:=odS) rfl (⟨_,_,_,_,rfl,rfl,rfl,nu⟩) rfl (fun _=>?_)
 refine dI (od:=odS) rfl (⟨_,_,_,_,rfl,rfl,rfl,nu⟩) rfl (fun _=>?_)
 refine dI (od:=odS) rfl (⟨_,_,_,_,rfl,rfl,rfl,nu⟩) rfl (fun _=>?_)
 refine dI (od:=odS) rfl (⟨_,_,_,_,rfl,rfl,rfl,nu⟩) rfl (fun _=>?_)
 refine dI (od:=odS) rfl (⟨_,_,_,_,rfl,rfl,rfl,nu⟩) rfl (fun _=>?_)
 refine dI (od:=odS) rfl (⟨_,_,_,_,rfl,rfl,rfl,nu⟩) rfl (fun _=>?_)
 refine M2 ?_
 intros
 revert H;refine B9 fun r40 H e40=>?_
 cases e40;cases Hr4
 revert H;refine B2 fun r41 H e41=>?_
 cases e41;cases Hr3
 revert H;refine B3 fun r42 H e42=>?_
 cases e42;cases Hr2
 cases H
 refine aE [] (by decide) ?_
 exact To
 exact fk
 kernel_rfl
 revert H;refine is (fun c27 H=>?_) fun c27 H=>?_
 revert H;refine bs fun y23 h34 H=>?_
 revert H;refine bs fun y24 h35 H=>?_
 apply cB (ods:=[_,_,_,_,_,_,_,_,_,_,_,_,_,_,_,_,_,_,_,_,_,_,_,_,_,_,_,_,_,_,_,_,_,_,_,_]) 36 0 5 bZ rfl rfl rfl
 refine ND ?_
 refine M8 ?_
 intros
 refine M3 ?_
 intros
 refine Nc (nS _ _ _ h32) fun _=>?_
 refine M4 ?_
 intros
 refine Nc (qA _ _ _ _ _ h33) fun _=>?_
 refine M8 ?_
 intros
 refine M2 ?_
 intros
 refine Nc (nS _ _ _ h34) fun _=>?_
 refine M4 ?_
 intros
 refine Nc (qA _ _ _ _ _ h35) fun _=>?_
 refine M3 ?_
 intros
 refine Z2 ?_
 revert H;refine cs (fun c28 H=>?_) fun c28 H=>?_
 refine Z4 ?_
 exact Tm ((x9,x10,x11,x12)) (ij H)
 revert H;refine B7 fun r43 H e43=>?_
 cases e43;cases Hr4
 revert H;refine B2 fun r44 H e44=>?_
 cases e44;cases Hr3
 revert H;refine B3 fun r45 H e45=>?_
 cases e45;cases Hr2
 cases H
 refine aE [] (by decide) ?_
 exact To
 exact fk
 kernel_rfl
 apply cB (ods:=[_,_,_,_,_,_,_,_,_,_,_,_,_,_,_,_,_,_,_,_,_,_,_,_,_,_,_,_,_,_,_,_,_,_,_,_]) 36 0 5 bZ rfl rfl rfl
 refine ND ?_
 refine M8 ?_
 intros
 refine M3 ?_
 intros
 refine Nc (nS _ _ _ h32) fun _=>?_
 refine M4 ?_
 intros
 refine Nc (qA _ _ _ _ _ h33) fun _=>?_
 refine M8 ?_
 intros
 refine M8 ?_
 intros
 refine M3 ?_
 intros
 refine Z6 ?_
 exact Tm ((x9,x10,x11,x12)) (ij H)
 exact fk
 kernel_rfl
 revert H;refine is (fun c29 H=>?_) fun c29 H=>?_
 revert H;refine bs fun y25 h36 H=>?_
 revert H;refine bs fun y26 h37 H=>?_
 apply cB (ods:=[_,_,_,_,_,_,_,_,_,_,_,_,_,_,_,_,_,_,_,_,_,_,_,_,_,_,_,_,_,_,_,_,_,_,_,_]) 36 0 5 bZ rfl rfl rfl
 refine ND ?_
 refine M8 ?_
 intros
 refine M8 ?_
 intros
 refine M6 ?_
 intros
 refine N_op (od:=odC [0] false (fI y8.Deed) [eQ]) (ps:=[0]) (φ:=fI y8.Deed) rfl (fun _=>rfl) ⟨_,_,rfl,rfl,rfl⟩ rfl rfl (zM rfl hh (sc rfl) rfl Ent.rfl) (fun _=>?_)
 refine M4 ?_
 intros
 refine Nc (nS _ _ _ h36) fun _=>?_
 refine M4 ?_
 intros
 refine Nc (qA _ _ _ _ _ h37) fun _=>?_
 refine M3 ?_
 intros
 refine Z2 ?_
 revert H;refine cs (fun c30 H=>?_) fun c30 H=>?_
 refine Z4 ?_
 exact Tm ((x9,x10,x11,x12)) (ij H)
 revert H;refine B7 fun r46 H e46=>?_
 cases e46;cases Hr4
 revert H;refine B2 fun r47 H e47=>?_
 cases e47;cases Hr3
 revert H;refine B3 fun r48 H e48=>?_
 cases e48;cases Hr2
 cases H
 refine aE [] (by decide) ?_
 exact To
 exact fk
 kernel_rfl
 apply cB (ods:=[_,_,_,_,_,_,_,_,_,_,_,_,_,_,_,_,_,_,_,_,_,_,_,_,_,_,_,_,_,_,_,_,_,_,_,_]) 36 0 5 bZ rfl rfl rfl
 refine ND ?_
 refine M8 ?_
 intros
 refine M8 ?_
 intros
 refine M6 ?_
 intros
 refine N_op (od:=odC [0] false (fI y8.Deed) [eQ]) (ps:=[0]) (φ:=fI y8.Deed) rfl (fun _=>rfl) ⟨_,_,rfl,rfl,rfl⟩ rfl rfl (zM rfl hh (sc rfl) rfl Ent.rfl) (fun _=>?_)
 refine M8 ?_
 intros
 refine M5 ?_
 intros
 refine Z6 ?_
 exact Tm ((x9,x10,x11,x12)) (ij H)
 exact fk
 kernel_rfl
 revert H;refine B7 fun r49 H e49=>?_
 cases e49;cases Hr4
 revert H;refine B2 fun r50 H e50=>?_
 cases e50;cases Hr3
 revert H;refine B3 fun r51 H e51=>?_
 cases e51;cases Hr2
 cases H
 refine aE [] (by decide) ?_
 exact To
 clear H;intro i hi;obtain⟨x18,x19,x20,x21⟩:=i;subst o4;have H:=Hr4;clear Hr4;try dsimp only at H
 try dsimp only
 revert H;refine bs fun o9 H Hr9=>?_
 refine bD (ι:=Unit) (fun i=>o9=Sum.inl ()) (fun i=>[(2,fEq (ptr b1)),(3,fEq (ptr b2)),(5,fSl cH y4.1),(7,fI x18),(8,fI x19),(9,fEq v1),(10,fEq v2),(11,fI x13),(12,fEq (ptr b5))]) (fun i=>[aA b5 67 [fI y8.Deed,fI y8.At,fI y8.N,fSl aU y8.Vals],aA b2 47 [fI a1.Start,fI a1.Here,fSl aU a1.Env,fI a1.Chans,fI a1.Spots],aA b1 25 [fI a0.Free,fSl aF a0.Defs,fSl aJ a0.Code,fI a0.Main],aB v1 4 dV x20,aB v2 4 dV x21]) ?_ ?_
 revert H;refine I7 (fun c31 H=>?_) fun c31 H=>?_
 revert H;refine I6 (fun c32 H=>?_) fun c32 H=>?_
 revert H;refine B12 fun r52 H e52=>?_
 cases e52;cases Hr9
 revert H;refine B2 fun r53 H e53=>?_
 cases e53;cases Hr3
 revert H;refine B3 fun r54 H e54=>?_
 cases e54;cases Hr2
 cases H
 refine aE [] (by decide) ?_
 exact To
 revert H;refine I7 (fun c33 H=>?_) fun c33 H=>?_
 revert H;refine B5 fun r55 H e55=>?_
 cases e55;cases Hr9
 revert H;refine B2 fun r56 H e56=>?_
 cases e56;cases Hr3
 revert H;refine B3 fun r57 H e57=>?_
 cases e57;cases Hr2
 cases H
 refine aE [] (by decide) ?_
 exact To
 refine Z3 ?_
 exact Tm (()) (ij H)
 refine Z6 ?_
 refine bE (⟨_,_,_,_,rfl,rfl,rfl,nu⟩) rfl rfl ?_
 refine bE (⟨_,_,_,_,rfl,rfl,rfl,nu⟩) rfl rfl ?_
 refine bE (⟨_,_,_,_,rfl,rfl,rfl,nu⟩) rfl rfl ?_
 refine bE (⟨_,_,_,_,rfl,rfl,rfl,nu⟩) rfl rfl ?_
 refine Z6 ?_
 exact Tm (()) (ij H)
 clear H;intro i hi;subst o9;have H:=Hr9;clear Hr9;try dsimp only at H
 try dsimp only
 refine Z4 ?_
 refine Tl (ι:=Nat × Int) (fun i=>lP a0 y8 x18 x19 x20 x21 i.1 i.2=_) (fun i=>i.1) (fun i=>[(2,fEq (ptr b1)),(3,fEq (ptr b2)),(5,fSl cH y4.1),(7,fI x18),(8,fI x19),(9,fEq v1),(10,fEq v2),(11,fI x13),(12,fEq (ptr b5)),(17,fI i.2)]) (fun i=>[aA b5 67 [fI y8.Deed,fI y8.At,fI y8.N,fSl aU y8.Vals],aA b2 47 [fI a1.Start,fI a1.Here,fSl aU a1.Env,fI a1.Chans,fI a1.Spots],aA b1 25 [fI a0.Free,fSl aF a0.Defs,fSl aJ a0.Code,fI a0.Main],aB v1 4 dV x20,aB v2 4 dV x21]) (fuel,0) H ?_
 clear H;rintro⟨k4,x28⟩ H
 replace H:lP a0 y8 x18 x19 x20 x21 k4 x28=_:=H
 try dsimp only
 obtain _ | k4:=k4
 rw [lP]at H;cases H
 rw [lP]at H
 refine aW ?_
 revert H;refine I7 (fun c34 H=>?_) fun c34 H=>?_
 refine Z3 ?_
 refine aW ?_
 refine Z1 ?_
 refine aW ?_
 revert H;refine bs fun y27 h38 H=>?_
 revert H;refine bs fun y28 h39 H=>?_
 apply cB (ods:=[_,_,_,_,_,_,_,_,_,_,_]) 11 0 5 bZ rfl rfl rfl
 refine ND ?_
 refine M8 ?_
 intros
 refine M1 ?_
 intros
 refine Nc (qA _ _ _ _ _ h39) fun _=>?_
 refine M1 ?_
 intros
 refine Z2 ?_
 revert H;refine cs (fun c35 H=>?_) fun c35 H=>?_
 revert H;refine B6 fun z12 h40 H=>?_
 refine Z3 ?_
 exact Tm ((k4,z12)) ⟨H,ls⟩
 revert H;refine B11 fun r58 H e58=>?_
 cases e58;cases Hr3
 revert H;refine B3 fun r59 H e59=>?_
 cases e59;cases Hr2
 cases H
 refine aE [] (by decide) ?_
 exact To
 exact fk
 kernel_rfl
 refine Z7 ?_
 refine aE [1,2,3,4] (by decide) ?_
 exact Tm ((x18,x19,x20,x21)) (ij H)
 clear H;intro i hi;obtain⟨x14,x15,x16,x17⟩:=i;subst o3;have H:=Hr3;clear Hr3;try dsimp only at H
 try dsimp only
 revert H;refine B2 fun z13 h41 H=>?_
 refine Z3 ?_
 exact Tm ((k1,x14,x15,x16,x17,z13)) ⟨H,ls⟩
 refine Z6 ?_
 refine aE [0,1] (by decide) ?_
 exact Tm ((x9,x10)) (ij H)
 clear H;intro i hi;obtain⟨x2,x3⟩:=i;subst o2;have H:=Hr2;clear Hr2;try dsimp only at H
 try dsimp only
 revert H;refine bs fun o10 H Hr10=>?_
 refine bD (ι:=Bool) (fun i=>o10=i) (fun i=>[(4,aS i)]) (fun i=>[aA b2 47 [fI a1.Start,fI a1.Here,fSl aU a1.Env,fI a1.Chans,fI a1.Spots],aA b1 25 [fI a0.Free,fSl aF a0.Defs,fSl aJ a0.Code,fI a0.Main]]) ?_ ?_
 revert H;refine I4 (fun c36 H=>?_) fun c36 H=>?_
 revert H;refine I4 (fun c37 H=>?_) fun c37 H=>?_
 revert H;refine bs fun y29 h42 H=>?_
 refine Tc (xI _ h42) ?_
 refine Z3 ?_
 exact Tm (y29) (ij H)
 refine Z4 ?_
 exact Tm (false) (ij H)
 refine Z8 ?_
 exact Tm (false) (ij H)
 clear H;intro x29 hi;subst o10;have H:=Hr10;clear Hr10;try dsimp only at H
 try dsimp only
 refine Z1 ?_
 cases H
 refine aE [] (by decide) ?_
 exact To
 exact fk
 kernel_rfl
open Go.SX Go.SW Go.Dt
theorem bsm {α γ:Type} {a:α} {f:α → Option γ}:(some a).bind f=f a:=by
 cases h:f a <;> simp [h]
theorem eA {α:Type} {xs:List α} {i:Nat} {y:α} (h:xs[i]? =some y):idx xs (i:Int)=some y:=by
 unfold idx;rw [if_pos (by omega)];simpa using h
theorem bP {α:Type} (pre suf:List α) (y:α):idx (pre++y :: suf) (pre.length:Int)=some y:=eA (by simp)
theorem aI {i:Int} (h:-9000000000000000000 ≤ i ∧ i ≤ 9000000000000000000):chk i=some i:=by unfold chk;rw [if_pos (by omega)]
theorem bU {α:Type} (pre suf:List α) (y:α):(pre.length:Int)<((pre++y :: suf).length:Int):=by simp;omega
theorem eY {α:Type} (pre suf:List α) (y:α):pre++y :: suf=(pre++[y])++suf:=by simp
theorem bR {α:Type} (pre:List α) (y:α):(pre.length:Int)+1=((pre++[y]).length:Int):=by simp
theorem dU {α:Type} {xs:List α} {i:Int} (h0:0 ≤ i) (h1:i<xs.length):idx xs i=some (xs[i.toNat]'(by omega)):=by
 unfold idx;rw [if_pos h0];simp
theorem oU {α:Type} {xs:List α} {i:Int} {y:α} (h:idx xs i=some y):0 ≤ i ∧ i<xs.length ∧ xs[i.toNat]? =some y:=by
 unfold idx at h
 split at h
 ·have:=(List.getElem?_eq_some_iff.1 h).1;exact⟨by assumption,by omega,h⟩
 ·cases h
theorem dP {α:Type} {xs:List α} (h:xs.length ≤ 1000000000):cN xs=some xs:=by unfold cN;rw [if_pos h]
theorem xT {α:Type} (pre suf:List α):slc (pre++suf) 0 (pre.length:Int)=some pre:=by
 unfold slc;rw [if_pos (by simp;omega)];simp
def W:Value:= .iface 163 (.agg ([]:List Value).toArray)
theorem dW:bJ true=some (.inl ()):=rfl
theorem cC:bJ false=some (.inr W):=rfl
structure fC {α:Type} (g:aC Int α) (n:Nat):Prop where
 lt:∀ (k:Int) (y:α),g.get k=some y → 0 ≤ k ∧ k<(n:Int)
 size:g.size=((List.range n).filter fun (i:Nat)=>(g.get (i:Int)).isSome).length
theorem fC.none {α:Type} (n:Nat):fC (aC.none:aC Int α) n:=⟨fun k y h=>(by simp [aC.none]at h),by
 have:(List.range n).filter (fun (i:Nat)=>((aC.none:aC Int α).get (i:Int)).isSome)=[]:=List.filter_eq_nil_iff.2 fun _ _=>by simp [aC.none]
 rw [this];rfl⟩
theorem aEx (f:Nat → Bool) (j:Nat) (hf:f j=false):∀ n,(if j<n then 1 else 0)+((List.range n).filter f).length=((List.range n).filter fun i=>decide (i=j) || f i).length
 | 0=>by simp
 | n+1=>by
  have ih:=aEx f j hf n;rw [List.range_succ,List.filter_append,List.filter_append,List.length_append,List.length_append,← ih];by_cases h:n=j
  ·subst h;simp [hf];omega
  ·have e:[n].filter (fun i=>decide (i=j) || f i)=[n].filter f:=by simp [List.filter,h]
   rw [e];by_cases h2:j<n
   ·rw [if_pos h2,if_pos (by omega)];omega
   ·rw [if_neg h2,if_neg (by omega)];omega
theorem fC.upd {α:Type} {g:aC Int α} {n:Nat} (h:fC g n) {k:Int} {y:α} (hk:0 ≤ k ∧ k<n):fC (g.upd k y) n:=by
 refine⟨fun k' y' h'=>?_,?_⟩
 ·by_cases e:k'=k
  ·subst e;exact hk
  ·exact h.lt k' y' (by simpa [aC.upd,e] using h')
 ·have hg:(fun i:Nat=>((g.upd k y).get (i:Int)).isSome)=fun i:Nat=>decide (i=k.toNat) || (g.get (i:Int)).isSome:=by
   funext i
   simp only [aC.upd];by_cases e:(i:Int)=k
   ·rw [if_pos e,decide_eq_true (by omega)];rfl
   ·rw [if_neg e,decide_eq_false (by omega)];rfl
  have hk':((k.toNat:Nat):Int)=k:=by omega
  rw [hg];simp only [aC.upd];cases hs:(g.get k).isSome with
  | true=>
   rw [if_pos rfl,h.size];congr 2
   funext i
   by_cases e:i=k.toNat
   ·subst e;rw [hk',hs];simp
   ·simp [e]
  | false=>
   rw [if_neg (by simp),← aEx (fun i:Nat=>(g.get (i:Int)).isSome) k.toNat (by rw [hk',hs]) n,if_pos (by omega),← h.size];omega
theorem fC.full {α:Type} {g:aC Int α} {n:Nat} (h:fC g n):g.size=n ↔ ∀ i:Nat,i<n → (g.get (i:Int)).isSome=true:=by
 rw [h.size]
 constructor
 ·intro e i hi;have hl:(List.range n).length=n:=List.length_range;have:=List.filter_eq_self.1 ((List.filter_sublist (p:=fun i:Nat=>(g.get (i:Int)).isSome)).eq_of_length (by rw [e,hl])) i (List.mem_range.2 hi)
  exact this
 ·intro hh;rw [List.filter_eq_self.2 fun i hi=>hh i (List.mem_range.1 hi),List.length_range]
theorem aHh {c:Int} (suf:List Int):∀ (pre:List Int) (k:Nat),suf.length<k → pre.length+suf.length ≤ 3000000 → c ∉ pre →
 ∃ r,kC (pre++suf) c k pre.length=some r ∧ ((c∈suf ∧ ∃ i:Int,r= .inr i ∧ 0 ≤ i) ∨ (c ∉ suf ∧ r= .inl ())):=by
 induction suf with
 | nil=>
  intro pre k hk _ _;obtain _ | k:=k
  ·omega
  exact⟨_,by rw [kC,if_neg (by simp)], .inr ⟨by simp,rfl⟩⟩
 | cons e suf ih=>
  intro pre k hk hB hn;obtain _ | k:=k
  ·omega
  simp only [List.length_cons]at hk hB;by_cases he:c=e
  ·exact⟨_,by rw [kC,if_pos (bU _ _ _),bP,bsm,if_pos he];rfl, .inl ⟨by simp [he],_,rfl,by omega⟩⟩
  ·obtain⟨r,h1,h2⟩:=ih (pre++[e]) k (by omega) (by simp;omega) (by simp [hn,he])
   refine⟨r,?_,?_⟩
   ·rw [kC,if_pos (bU _ _ _),bP,bsm,if_neg he,aI (by omega),bsm,eY pre suf e,bR pre e];exact h1
   ·rcases h2 with⟨h2,h3⟩ | ⟨h2,h3⟩
    ·exact .inl ⟨by simp [h2],h3⟩
    ·exact .inr ⟨by simp [h2,he],h3⟩
theorem aEu {fuel:Nat} {l:List Int} {c:Int} (hf:l.length<fuel) (hB:l.length ≤ 3000000):qN fuel l c=some (decide (c∈l)):=by
 obtain⟨r,h1,h2⟩:=aHh (c:=c) l [] fuel hf (by simpa using hB) (by simp)
 simp only [List.nil_append,List.length_nil,Int.natCast_zero]at h1
 rw [qN,vU,h1]
 rcases h2 with⟨h2,i,rfl,h3⟩ | ⟨h2,rfl⟩
 ·simp [h2,h3]
 ·simp [h2]
theorem has_loop {c:Int} (suf:List Int):∀ (pre:List Int) (k:Nat),suf.length<k → pre.length+suf.length ≤ 3000000 →
 sV (pre++suf) c k pre.length=some (if c∈suf then .inr true else .inl ()):=by
 induction suf with
 | nil=>
  intro pre k hk _;obtain _ | k:=k
  ·omega
  rw [sV,if_neg (by simp)];simp
 | cons e suf ih=>
  intro pre k hk hB;obtain _ | k:=k
  ·omega
  simp only [List.length_cons]at hk hB;rw [sV,if_pos (bU _ _ _),bP,bsm];by_cases he:e=c
  ·rw [if_pos he,if_pos (by simp [he])];rfl
  ·rw [if_neg he,aI (by omega),bsm,eY pre suf e,bR pre e,ih (pre++[e]) k (by omega) (by simp;omega)];have:(c∈e :: suf) ↔ c∈suf:=by simp [Ne.symm he]
   by_cases hc:c∈suf
   ·rw [if_pos hc,if_pos (this.2 hc)]
   ·rw [if_neg hc,if_neg (fun g=>hc (this.1 g))]
theorem lK {fuel:Nat} {l:List Int} {c:Int} (hf:l.length<fuel) (hB:l.length ≤ 3000000):wQ fuel l c=some (decide (c∈l)):=by
 have h:=has_loop (c:=c) l [] fuel hf (by simpa using hB)
 simp only [List.nil_append,List.length_nil,Int.natCast_zero]at h
 rw [wQ,h,bsm]
 by_cases hc:c∈l
 ·rw [if_pos hc,decide_eq_true hc]
 ·rw [if_neg hc,decide_eq_false hc]
def fD (n:Nat) (c:ScopeChan):Prop:=0 ≤ c.At ∧ c.At ≤ (n:Int) ∧ 0 ≤ c.Many ∧ c.Many ≤ 3
instance {n:Nat} {c:ScopeChan}:Decidable (fD n c):=by unfold fD;infer_instance
def eV:Nat → List ScopeSpot → Prop
 | _,[]=>True
 | i,s :: l=>(0 ≤ s.In ∧ s.In ≤ (i:Int)) ∧ eV (i+1) l
instance eV.dec:∀ {i:Nat} {l:List ScopeSpot},Decidable (eV i l)
 | _,[]=>isTrue trivial
 | i,s :: l=>by unfold eV;have:=eV.dec (i:=i+1) (l:=l);infer_instance
def eE (ch:List ScopeChan) (at_:Int):List Int → List Int → Prop
 | _,[]=>True
 | pre,j :: l=>(0 ≤ j ∧ j<ch.length ∧ (∃ c,ch[j.toNat]? =some c ∧ c.At=at_) ∧ j ∉ pre) ∧ eE ch at_ (pre++[j]) l
def okR (n:Nat) (ch:List ScopeChan) (r:ScopeRule):Prop:=(0 ≤ r.At ∧ r.At ≤ (n:Int) ∧ 1 ≤ r.Joins.length ∧ r.Joins.length ≤ 3) ∧ eE ch r.At [] r.Joins
def okD (d:ScopeDef):Prop:=(d.Chans.length ≤ 30 ∧ d.Spots.length ≤ 30 ∧ d.Rules.length ≤ 30) ∧ (∀ c∈d.Chans,fD d.Spots.length c) ∧ eV 0 d.Spots ∧ (∀ r∈d.Rules,okR d.Spots.length d.Chans r) ∧ ∀ i:Nat,i<d.Chans.length → ∃ r∈d.Rules,(i:Int)∈r.Joins
def inD (n:Nat) (d:ScopeDef):Prop:=(∀ s∈d.Spots,0 ≤ s.Node ∧ s.Node<(n:Int)) ∧ ∀ r∈d.Rules,0 ≤ r.Node ∧ r.Node<(n:Int)
open Classical in
theorem nV (x:Code_checker) (n:Int):jP x n=some (x,decide (0 ≤ n ∧ n<x.CodeProg.Code.length)):=by
 obtain⟨⟨a,b,c,d⟩,e,f,g,h⟩:=x
 rw [jP]
 by_cases h1:0 ≤ n
 ·rw [if_pos h1,bsm];simp [h1]
 ·rw [if_neg h1,bsm];simp [h1]
theorem aB6 {a:Int} {d:ScopeDef}:pX a d=some (decide (0 ≤ a ∧ a ≤ (d.Spots.length:Int))):=by
 rw [pX]
 by_cases h:0 ≤ a
 ·rw [if_pos h,bsm];simp [h]
 ·rw [if_neg h,bsm];simp [h]
open Go.SX Go.SW Go.Dt
open Classical in
theorem pd1 {sp:List ScopeSpot} {ru:List ScopeRule} (suf:List ScopeChan):∀ (pre:List ScopeChan) (k:Nat),suf.length<k → pre.length+suf.length ≤ 3000000 →
 lO ⟨pre++suf,sp,ru⟩ k pre.length=some (if ∀ c∈suf,fD sp.length c then .inl () else .inr (.inr W)):=by
 induction suf with
 | nil=>
  intro pre k hk _;obtain _ | k:=k
  ·omega
  rw [lO,if_neg (by simp),if_pos (fun _ h=>by cases h)]
 | cons e suf ih=>
  intro pre k hk hB;obtain _ | k:=k
  ·omega
  simp only [List.length_cons]at hk hB;rw [lO,if_pos (bU _ _ _)];dsimp only
  rw [bP,bsm,aB6,bsm];dsimp only
  by_cases h:fD sp.length e
  ·obtain⟨h1,h2,h3,h4⟩:=h;rw [decide_eq_true ⟨h1,h2⟩,cond_true,if_pos h3,decide_eq_true h4,dW,bsm];simp only [bsm];rw [aI (by omega),bsm,eY pre suf e,bR pre e,ih (pre++[e]) k (by omega) (by simp;omega)];by_cases hs:∀ c∈suf,fD sp.length c
   ·rw [if_pos hs,if_pos (fun c hc=>by cases hc with | head=>exact⟨h1,h2,h3,h4⟩ | tail _ hc=>exact hs c hc)]
   ·rw [if_neg hs,if_neg (fun g=>hs fun c hc=>g c (.tail _ hc))]
  ·rw [if_neg (fun g:∀ c∈e :: suf,fD sp.length c=>h (g e (.head _)))];by_cases h1:0 ≤ e.At ∧ e.At ≤ (sp.length:Int)
   ·rw [decide_eq_true h1,cond_true];by_cases h3:0 ≤ e.Many
    ·rw [if_pos h3,decide_eq_false (fun h4=>h ⟨h1.1,h1.2,h3,h4⟩),cC];rfl
    ·rw [if_neg h3,cC];rfl
   ·rw [decide_eq_false h1,cC];rfl
open Classical in
theorem pd2 {ch:List ScopeChan} {ru:List ScopeRule} {F M:Int} {D:List ScopeDef} {C:List CodeIns} {b la td:List Int} {lv:aC Int CodeLevel} (suf:List ScopeSpot):∀ (pre:List ScopeSpot) (k:Nat),suf.length<k → pre.length+suf.length ≤ 3000000 →
 lM ⟨ch,pre++suf,ru⟩ k pre.length F D C M b la lv td=some (if eV pre.length suf ∧ ∀ s∈suf,0 ≤ s.Node ∧ s.Node<(C.length:Int)then .inl (F,D,C,M,b,la,lv,td) else .inr (.inr W)):=by
 induction suf with
 | nil=>
  intro pre k hk _;obtain _ | k:=k
  ·omega
  rw [lM,if_neg (by simp),if_pos ⟨trivial,fun _ h=>by cases h⟩]
 | cons e suf ih=>
  intro pre k hk hB;obtain _ | k:=k
  ·omega
  simp only [List.length_cons]at hk hB;rw [lM,if_pos (bU _ _ _)];dsimp only
  rw [bP,bsm];by_cases h:(0 ≤ e.In ∧ e.In ≤ (pre.length:Int)) ∧ 0 ≤ e.Node ∧ e.Node<(C.length:Int)
  ·obtain⟨⟨h1,h2⟩,h3⟩:=h;rw [if_pos h1,if_pos h2,nV,bsm];dsimp only
   rw [decide_eq_true h3,dW,bsm];simp only [bsm];rw [aI (by omega),bsm,eY pre suf e,bR pre e,ih (pre++[e]) k (by omega) (by simp;omega)];have hl:(pre++[e]).length=pre.length+1:=by simp
   rw [hl];by_cases hs:eV (pre.length+1) suf ∧ ∀ s∈suf,0 ≤ s.Node ∧ s.Node<(C.length:Int)
   ·rw [if_pos hs,if_pos ⟨⟨⟨h1,h2⟩,hs.1⟩,fun c hc=>by cases hc with | head=>exact h3 | tail _ hc=>exact hs.2 c hc⟩]
   ·rw [if_neg hs,if_neg (fun g=>hs ⟨g.1.2,fun c hc=>g.2 c (.tail _ hc)⟩)]
  ·rw [if_neg (fun g:eV pre.length (e :: suf) ∧ ∀ s∈e :: suf,0 ≤ s.Node ∧ s.Node<(C.length:Int)=>h ⟨g.1.1,g.2 e (.head _)⟩)];by_cases h1:0 ≤ e.In
   ·rw [if_pos h1];by_cases h2:e.In ≤ (pre.length:Int)
    ·rw [if_pos h2,nV,bsm];dsimp only
     rw [decide_eq_false (fun h3=>h ⟨⟨h1,h2⟩,h3⟩),cC];rfl
    ·rw [if_neg h2,cC];rfl
   ·rw [if_neg h1,cC];rfl
def eB (g:aC Int Bool) (l:List Int):aC Int Bool:=l.foldl (fun g j=>g.upd j true) g
def updR (g:aC Int Bool) (l:List ScopeRule):aC Int Bool:=l.foldl (fun g r=>eB g r.Joins) g
theorem aD3 {n:Nat}:∀ (l:List Int) (g:aC Int Bool),fC g n → (∀ j∈l,0 ≤ j ∧ j<(n:Int)) → fC (eB g l) n ∧ ∀ i,((eB g l).get i).isSome=true ↔ (g.get i).isSome=true ∨ i∈l
 | [],g,h,_=>⟨h,fun i=>by simp [eB]⟩
 | j :: l,g,h,hl=>by
  obtain⟨h1,h2⟩:=aD3 l (g.upd j true) (h.upd (hl j (.head _))) fun x hx=>hl x (.tail _ hx)
  refine⟨h1,fun i=>(h2 i).trans ?_⟩
  by_cases e:i=j
  ·subst e;simp [aC.upd]
  ·simp [aC.upd,e]
theorem yZ {ch:List ScopeChan} {a:Int}:∀ {l pre:List Int},eE ch a pre l → ∀ j∈l,0 ≤ j ∧ j<(ch.length:Int)
 | j :: l,pre,h,x,hx=>by
  cases hx with
  | head=>exact⟨h.1.1,h.1.2.1⟩
  | tail _ hx=>exact yZ h.2 x hx
theorem aEZ {n k:Nat} {ch:List ScopeChan} (hn:ch.length=n):∀ (l:List ScopeRule) (g:aC Int Bool),fC g n → (∀ r∈l,okR k ch r) → fC (updR g l) n ∧ ∀ i,((updR g l).get i).isSome=true ↔ (g.get i).isSome=true ∨ ∃ r∈l,i∈r.Joins
 | [],g,h,_=>⟨h,fun i=>by simp [updR]⟩
 | r :: l,g,h,hl=>by
  obtain⟨h1,h2⟩:=aD3 r.Joins g h fun j hj=>by have:=yZ (hl r (.head _)).2 j hj;omega
  obtain⟨h3,h4⟩:=aEZ hn l (eB g r.Joins) h1 fun x hx=>hl x (.tail _ hx)
  refine⟨h3,fun i=>(h4 i).trans ?_⟩
  rw [h2];simp [or_assoc]
open Classical in
theorem pd4 {fuel:Nat} {ch:List ScopeChan} {sp:List ScopeSpot} {ru:List ScopeRule} {a nd:Int} {F M:Int} {D:List ScopeDef} {C:List CodeIns} {b la td:List Int} {lv:aC Int CodeLevel} (suf:List Int):∀ (pre:List Int) (k:Nat) (g:aC Int Bool),suf.length<k → pre.length+suf.length ≤ 3000000 → pre.length+suf.length<fuel →
 lX fuel ⟨ch,sp,ru⟩ ⟨a,pre++suf,nd⟩ F D C M b la lv td k pre.length g=some (if eE ch a pre suf then .inl (F,D,C,M,b,la,lv,td,eB g suf) else .inr (.inr (.inr W))):=by
 induction suf with
 | nil=>
  intro pre k g hk _ _;obtain _ | k:=k
  ·omega
  rw [lX,if_neg (by simp),if_pos (show eE ch a pre []from trivial)];rfl
 | cons e suf ih=>
  intro pre k g hk hB hf;obtain _ | k:=k
  ·omega
  simp only [List.length_cons]at hk hB hf;rw [lX,if_pos (bU _ _ _)];dsimp only
  rw [bP,bsm];by_cases h0:0 ≤ e ∧ e<(ch.length:Int)
  ·rw [if_pos h0.1,if_pos h0.2,dU h0.1 h0.2,bsm];have hc:ch[e.toNat]? =some (ch[e.toNat]'(by omega)):=by simp
   by_cases h1:(ch[e.toNat]'(by omega)).At=a
   ·rw [if_pos h1,xT,bsm,aEu (by omega) (by omega),bsm];by_cases h2:e∈pre
    ·rw [decide_eq_true h2,Bool.not_true,cC,if_neg (fun g:eE ch a pre (e :: suf)=>g.1.2.2.2 h2)];rfl
    ·rw [decide_eq_false h2,Bool.not_false,dW,bsm];simp only [bsm];rw [aI (by omega),bsm,eY pre suf e,bR pre e,ih (pre++[e]) k _ (by omega) (by simp;omega) (by simp;omega)];by_cases hs:eE ch a (pre++[e]) suf
     ·rw [if_pos hs,if_pos ⟨⟨h0.1,h0.2,⟨_,hc,h1⟩,h2⟩,hs⟩];rfl
     ·rw [if_neg hs,if_neg (fun g=>hs g.2)]
   ·rw [if_neg h1,cC,if_neg (fun g=>by obtain⟨⟨_,_,⟨c,g1,g2⟩,_⟩,_⟩:=g;rw [hc]at g1;cases g1;exact h1 g2)];rfl
  ·rw [if_neg (fun g:eE ch a pre (e :: suf)=>h0 ⟨g.1.1,g.1.2.1⟩)];by_cases h1:0 ≤ e
   ·rw [if_pos h1,if_neg (fun h2=>h0 ⟨h1,h2⟩),cC];rfl
   ·rw [if_neg h1,cC];rfl
open Classical in
theorem pd3 {fuel:Nat} {ch:List ScopeChan} {sp:List ScopeSpot} {F M:Int} {D:List ScopeDef} {C:List CodeIns} {b la td:List Int} {lv:aC Int CodeLevel} (hf:3000000<fuel) (suf:List ScopeRule):∀ (pre:List ScopeRule) (k:Nat) (g:aC Int Bool),suf.length<k → pre.length+suf.length ≤ 3000000 → (∀ r∈suf,r.Joins.length ≤ 3000000) →
 kM fuel ⟨ch,sp,pre++suf⟩ k pre.length F D C M b la lv td g=some (if ∀ r∈suf,okR sp.length ch r ∧ 0 ≤ r.Node ∧ r.Node<(C.length:Int)then .inl (F,D,C,M,b,la,lv,td,updR g suf) else .inr (.inr W)):=by
 induction suf with
 | nil=>
  intro pre k g hk _ _;obtain _ | k:=k
  ·omega
  rw [kM,if_neg (by simp),if_pos (fun _ h=>by cases h)];rfl
 | cons e suf ih=>
  intro pre k g hk hB hj;obtain _ | k:=k
  ·omega
  simp only [List.length_cons]at hk hB;obtain⟨ea,ej,en⟩:=e;rw [kM,if_pos (bU _ _ _)];dsimp only
  rw [bP,bsm,aB6,bsm];dsimp only
  by_cases h1:0 ≤ ea ∧ ea ≤ (sp.length:Int)
  ·rw [decide_eq_true h1,cond_true];by_cases h2:1 ≤ ej.length ∧ ej.length ≤ 3
   ·rw [if_pos (by omega),if_pos (by omega),nV,bsm];dsimp only
    by_cases h3:0 ≤ en ∧ en<(C.length:Int)
    ·rw [decide_eq_true h3,dW,bsm];simp only [bsm];have h4:=pd4 (fuel:=fuel) (ch:=ch) (sp:=sp) (ru:=pre++⟨ea,ej,en⟩ :: suf) (a:=ea) (nd:=en) (F:=F) (M:=M) (D:=D) (C:=C) (b:=b) (la:=la) (td:=td) (lv:=lv) ej [] fuel g (by omega) (by simp;omega) (by simp;omega)
     simp only [List.nil_append,List.length_nil,Int.natCast_zero]at h4;rw [h4];by_cases h5:eE ch ea [] ej
     ·rw [if_pos h5,bsm];dsimp only
      rw [aI (by omega),bsm,eY pre suf _,bR pre _,ih (pre++[_]) k _ (by omega) (by simp;omega) (fun r hr=>hj r (.tail _ hr))];by_cases hs:∀ r∈suf,okR sp.length ch r ∧ 0 ≤ r.Node ∧ r.Node<(C.length:Int)
      ·rw [if_pos hs,if_pos (fun r hr=>by
        cases hr with
        | head=>exact⟨⟨⟨h1.1,h1.2,h2⟩,h5⟩,h3⟩
        | tail _ hr=>exact hs r hr)];rfl
      ·rw [if_neg hs,if_neg (fun g=>hs fun r hr=>g r (.tail _ hr))]
     ·rw [if_neg h5,if_neg (fun g=>h5 (g _ (.head _)).1.2)];rfl
    ·rw [decide_eq_false h3,cC,if_neg (fun g=>h3 (g _ (.head _)).2)];rfl
   ·rw [if_neg (fun g:∀ r∈(⟨ea,ej,en⟩:ScopeRule) :: suf,okR sp.length ch r ∧ 0 ≤ r.Node ∧ r.Node<(C.length:Int)=>h2 (g ⟨ea,ej,en⟩ (.head _)).1.1.2.2)];by_cases h3:0<(ej.length:Int)
    ·rw [if_pos h3,if_neg (by omega),cC];rfl
    ·rw [if_neg h3,cC];rfl
  ·rw [decide_eq_false h1,cC,if_neg (fun g:∀ r∈(⟨ea,ej,en⟩:ScopeRule) :: suf,okR sp.length ch r ∧ 0 ≤ r.Node ∧ r.Node<(C.length:Int)=>h1 ⟨(g _ (.head _)).1.1.1,(g _ (.head _)).1.1.2.1⟩)];rfl
def smD (d:ScopeDef):Prop:=d.Chans.length ≤ 2000000 ∧ d.Spots.length ≤ 2000000 ∧ d.Rules.length ≤ 2000000 ∧ ∀ r∈d.Rules,r.Joins.length ≤ 2000000
open Classical in
theorem aGY {fuel:Nat} {x:Code_checker} {d:ScopeDef} (hf:4000000 ≤ fuel) (hs:smD d):tW fuel x d=some (if okD d ∧ inD x.CodeProg.Code.length d then .inl x else .inr W):=by
 obtain⟨ch,sp,ru⟩:=d
 obtain⟨⟨F,D,C,M⟩,b,la,lv,td⟩:=x
 obtain⟨s1,s2,s3,s4⟩:=hs
 simp only at s1 s2 s3 s4
 rw [tW]
 dsimp only
 by_cases h0:ch.length ≤ 30 ∧ sp.length ≤ 30 ∧ ru.length ≤ 30
 ·rw [if_pos (by omega),if_pos (by omega),decide_eq_true (by omega),dW,bsm];simp only [bsm];have e1:=pd1 (sp:=sp) (ru:=ru) ch [] fuel (by omega) (by simp;omega)
  have e2:=pd2 (ch:=ch) (ru:=ru) (F:=F) (M:=M) (D:=D) (C:=C) (b:=b) (la:=la) (td:=td) (lv:=lv) sp [] fuel (by omega) (by simp;omega)
  have e3:=pd3 (fuel:=fuel) (ch:=ch) (sp:=sp) (F:=F) (M:=M) (D:=D) (C:=C) (b:=b) (la:=la) (td:=td) (lv:=lv) (by omega) ru [] fuel aC.none (by omega) (by simp;omega) (fun r hr=>by have:=s4 r hr;omega)
  simp only [List.nil_append,List.length_nil,Int.natCast_zero]at e1 e2 e3;rw [e1];by_cases h1:∀ c∈ch,fD sp.length c
  ·rw [if_pos h1,bsm];dsimp only
   rw [e2];by_cases h2:eV 0 sp ∧ ∀ s∈sp,0 ≤ s.Node ∧ s.Node<(C.length:Int)
   ·rw [if_pos h2,bsm];dsimp only
    rw [e3];by_cases h3:∀ r∈ru,okR sp.length ch r ∧ 0 ≤ r.Node ∧ r.Node<(C.length:Int)
    ·rw [if_pos h3,bsm];dsimp only
     obtain⟨k1,k2⟩:=aEZ (k:=sp.length) rfl ru _ (fC.none ch.length) fun r hr=>(h3 r hr).1
     by_cases h4:(updR aC.none ru).size=ch.length
     ·rw [decide_eq_true (by omega),dW,bsm];dsimp only
      rw [if_pos ⟨⟨h0,h1,h2.1,fun r hr=>(h3 r hr).1,fun i hi=>by
       have:=(k2 i).1 (k1.full.1 h4 i hi);simpa [aC.none] using this⟩,h2.2,fun r hr=>(h3 r hr).2⟩]
     ·rw [decide_eq_false (by omega),cC,bsm];dsimp only
      rw [if_neg];rintro⟨⟨_,_,_,_,g⟩,_⟩
      exact h4 (k1.full.2 fun i hi=>(k2 i).2 (.inr (g i hi)))
    ·rw [if_neg h3,bsm];dsimp only
     rw [if_neg (fun g=>h3 fun r hr=>⟨g.1.2.2.2.1 r hr,g.2.2 r hr⟩)]
   ·rw [if_neg h2,bsm];dsimp only
    rw [if_neg (fun g=>h2 ⟨g.1.2.2.1,g.2.1⟩)]
  ·rw [if_neg h1,bsm];dsimp only
   rw [if_neg (fun g=>h1 g.1.2.1)]
 ·rw [if_neg (fun g:okD ⟨ch,sp,ru⟩ ∧ inD C.length ⟨ch,sp,ru⟩=>h0 g.1.1)];by_cases h1:ch.length ≤ 30
  ·rw [if_pos (by omega)];by_cases h2:sp.length ≤ 30
   ·rw [if_pos (by omega),decide_eq_false (by omega),cC];rfl
   ·rw [if_neg (by omega),cC];rfl
  ·rw [if_neg (by omega),cC];rfl
open Go.SX Go.SW Go.Dt
open Classical in
theorem rd1 {sp:List ScopeSpot} {ru:List ScopeRule} (suf:List ScopeChan):∀ (pre:List ScopeChan) (k:Nat),suf.length<k → pre.length+suf.length ≤ 3000000 →
 vL ⟨pre++suf,sp,ru⟩ k pre.length=some (if ∀ c∈suf,fD sp.length c then .inl () else .inr false):=by
 induction suf with
 | nil=>
  intro pre k hk _;obtain _ | k:=k
  ·omega
  rw [vL,if_neg (by simp),if_pos (fun _ h=>by cases h)]
 | cons e suf ih=>
  intro pre k hk hB;obtain _ | k:=k
  ·omega
  simp only [List.length_cons]at hk hB;rw [vL,if_pos (bU _ _ _)];dsimp only
  simp only [bP,bsm];by_cases h:fD sp.length e
  ·obtain⟨h1,h2,h3,h4⟩:=h;rw [if_neg (by omega),if_neg (by omega),if_neg (by omega),if_neg (by omega),aI (by omega),bsm,eY pre suf e,bR pre e,ih (pre++[e]) k (by omega) (by simp;omega)];by_cases hs:∀ c∈suf,fD sp.length c
   ·rw [if_pos hs,if_pos (fun c hc=>by cases hc with | head=>exact⟨h1,h2,h3,h4⟩ | tail _ hc=>exact hs c hc)]
   ·rw [if_neg hs,if_neg (fun g=>hs fun c hc=>g c (.tail _ hc))]
  ·rw [if_neg (fun g:∀ c∈e :: suf,fD sp.length c=>h (g e (.head _)))];by_cases h1:e.At<0
   ·rw [if_pos h1]
   ·rw [if_neg h1];by_cases h2:(sp.length:Int)<e.At
    ·rw [if_pos h2]
    ·rw [if_neg h2];by_cases h3:e.Many<0
     ·rw [if_pos h3]
     ·rw [if_neg h3,if_pos (by
       rcases Int.lt_or_le 3 e.Many with g | g
       ·exact g
       ·exact absurd (⟨by omega,by omega,by omega,g⟩:fD sp.length e) h)]
open Classical in
theorem rd2 {ch:List ScopeChan} {ru:List ScopeRule} (suf:List ScopeSpot):∀ (pre:List ScopeSpot) (k:Nat),suf.length<k → pre.length+suf.length ≤ 3000000 →
 vB ⟨ch,pre++suf,ru⟩ k pre.length=some (if eV pre.length suf then .inl () else .inr false):=by
 induction suf with
 | nil=>
  intro pre k hk _;obtain _ | k:=k
  ·omega
  rw [vB,if_neg (by simp),if_pos (show eV pre.length []from trivial)]
 | cons e suf ih=>
  intro pre k hk hB;obtain _ | k:=k
  ·omega
  simp only [List.length_cons]at hk hB;rw [vB,if_pos (bU _ _ _)];dsimp only
  simp only [bP,bsm];by_cases h:0 ≤ e.In ∧ e.In ≤ (pre.length:Int)
  ·rw [if_neg (by omega),if_neg (by omega),aI (by omega),bsm,eY pre suf e,bR pre e,ih (pre++[e]) k (by omega) (by simp;omega)];have hl:(pre++[e]).length=pre.length+1:=by simp
   rw [hl];by_cases hs:eV (pre.length+1) suf
   ·rw [if_pos hs,if_pos (show eV pre.length (e :: suf)from⟨h,hs⟩)]
   ·rw [if_neg hs,if_neg (fun g:eV pre.length (e :: suf)=>hs g.2)]
  ·rw [if_neg (fun g:eV pre.length (e :: suf)=>h g.1)];by_cases h1:e.In<0
   ·rw [if_pos h1]
   ·rw [if_neg h1,if_pos (by omega)]
def eT (u:List Bool) (l:List Int):List Bool:=l.foldl (fun u j=>u.set j.toNat true) u
def setR (u:List Bool) (l:List ScopeRule):List Bool:=l.foldl (fun u r=>eT u r.Joins) u
theorem rT:∀ (l:List Int) (u:List Bool),(∀ j∈l,0 ≤ j ∧ j<(u.length:Int)) → (eT u l).length=u.length ∧ ∀ i:Nat,(eT u l)[i]? =some true ↔ u[i]? =some true ∨ (i:Int)∈l
 | [],u,_=>⟨rfl,fun i=>by simp [eT]⟩
 | j :: l,u,hl=>by
  have hj:=hl j (.head _);obtain⟨h1,h2⟩:=rT l (u.set j.toNat true) fun x hx=>by simpa using hl x (.tail _ hx)
  refine⟨by show(eT (u.set j.toNat true) l).length=_;rw [h1];simp,fun i=>(h2 i).trans ?_⟩
  by_cases e:i=j.toNat
  ·subst e;have e2:((j.toNat:Nat):Int)=j:=by omega
   have e3:j.toNat<u.length:=by omega
   simp [e2,e3]
  ·have e2:(i:Int)≠j:=by omega
   rw [List.getElem?_set_ne (by omega)];simp [e2]
theorem aCH {n k:Nat} {ch:List ScopeChan} (hn:ch.length=n):∀ (l:List ScopeRule) (u:List Bool),u.length=n → (∀ r∈l,okR k ch r) → (setR u l).length=n ∧ ∀ i:Nat,(setR u l)[i]? =some true ↔ u[i]? =some true ∨ ∃ r∈l,(i:Int)∈r.Joins
 | [],u,h,_=>⟨h,fun i=>by simp [setR]⟩
 | r :: l,u,h,hl=>by
  obtain⟨h1,h2⟩:=rT r.Joins u fun j hj=>by have:=yZ (hl r (.head _)).2 j hj;omega
  obtain⟨h3,h4⟩:=aCH hn l (eT u r.Joins) (h1.trans h) fun x hx=>hl x (.tail _ hx)
  refine⟨h3,fun i=>(h4 i).trans ?_⟩
  rw [h2];simp [or_assoc]
open Classical in
theorem rd4 {fuel:Nat} {ch:List ScopeChan} {sp:List ScopeSpot} {ru:List ScopeRule} {a nd:Int} (suf:List Int):∀ (pre:List Int) (k:Nat) (u:List Bool),suf.length<k → pre.length+suf.length ≤ 3000000 → pre.length+suf.length<fuel → u.length=ch.length →
 vQ fuel ⟨ch,sp,ru⟩ ⟨a,pre++suf,nd⟩ k u pre.length=some (if eE ch a pre suf then .inl (eT u suf) else .inr (.inr false)):=by
 induction suf with
 | nil=>
  intro pre k u hk _ _ _;obtain _ | k:=k
  ·omega
  rw [vQ,if_neg (by simp),if_pos (show eE ch a pre []from trivial)];rfl
 | cons e suf ih=>
  intro pre k u hk hB hf hu;obtain _ | k:=k
  ·omega
  simp only [List.length_cons]at hk hB hf;rw [vQ,if_pos (bU _ _ _)];dsimp only
  rw [bP,bsm];by_cases h0:0 ≤ e ∧ e<(ch.length:Int)
  ·rw [if_neg (by omega),if_neg (by omega),xT,bsm,lK (by omega) (by omega),bsm];have hc:ch[e.toNat]? =some (ch[e.toNat]'(by omega)):=by simp
   by_cases h2:e∈pre
   ·rw [decide_eq_true h2,cond_true,if_neg (fun g:eE ch a pre (e :: suf)=>g.1.2.2.2 h2)];rfl
   ·rw [decide_eq_false h2,cond_false,dU h0.1 h0.2,bsm];by_cases h1:(ch[e.toNat]'(by omega)).At=a
    ·rw [if_neg (fun g=>g h1),dU h0.1 (by omega),bsm,aI (by omega),bsm,eY pre suf e,bR pre e,ih (pre++[e]) k _ (by omega) (by simp;omega) (by simp;omega) (by simpa using hu)];by_cases hs:eE ch a (pre++[e]) suf
     ·rw [if_pos hs,if_pos (show eE ch a pre (e :: suf)from⟨⟨h0.1,h0.2,⟨_,hc,h1⟩,h2⟩,hs⟩)];rfl
     ·rw [if_neg hs,if_neg (fun g:eE ch a pre (e :: suf)=>hs g.2)]
    ·rw [if_pos h1,if_neg (fun g:eE ch a pre (e :: suf)=>by obtain⟨⟨_,_,⟨c,g1,g2⟩,_⟩,_⟩:=g;rw [hc]at g1;cases g1;exact h1 g2)];rfl
  ·rw [if_neg (fun g:eE ch a pre (e :: suf)=>h0 ⟨g.1.1,g.1.2.1⟩)];by_cases h1:e<0
   ·rw [if_pos h1];rfl
   ·rw [if_neg h1,if_pos (by omega)];rfl
open Classical in
theorem rd3 {fuel:Nat} {ch:List ScopeChan} {sp:List ScopeSpot} (hf:3000000<fuel) (suf:List ScopeRule):∀ (pre:List ScopeRule) (k:Nat) (u:List Bool),suf.length<k → pre.length+suf.length ≤ 3000000 → (∀ r∈suf,r.Joins.length ≤ 3000000) → u.length=ch.length →
 tY fuel ⟨ch,sp,pre++suf⟩ k u pre.length=some (if ∀ r∈suf,okR sp.length ch r then .inl (setR u suf) else .inr false):=by
 induction suf with
 | nil=>
  intro pre k u hk _ _ _;obtain _ | k:=k
  ·omega
  rw [tY,if_neg (by simp),if_pos (fun _ h=>by cases h)];rfl
 | cons e suf ih=>
  intro pre k u hk hB hj hu;obtain _ | k:=k
  ·omega
  simp only [List.length_cons]at hk hB;obtain⟨ea,ej,en⟩:=e;rw [tY,if_pos (bU _ _ _)];dsimp only
  rw [bP,bsm];dsimp only
  have hn:∀ {P:Prop},¬ P → (okR sp.length ch ⟨ea,ej,en⟩ → P) → ¬ ∀ r∈(⟨ea,ej,en⟩:ScopeRule) :: suf,okR sp.length ch r:=fun h1 h2 g=>h1 (h2 (g _ (.head _)))
  by_cases h1:0 ≤ ea ∧ ea ≤ (sp.length:Int)
  ·by_cases h2:1 ≤ ej.length ∧ ej.length ≤ 3
   ·rw [if_neg (by omega),if_neg (by omega),if_neg (by omega),if_neg (by omega)];have h4:=rd4 (fuel:=fuel) (ch:=ch) (sp:=sp) (ru:=pre++⟨ea,ej,en⟩ :: suf) (a:=ea) (nd:=en) ej [] fuel u (by omega) (by simp;omega) (by simp;omega) hu
    simp only [List.nil_append,List.length_nil,Int.natCast_zero]at h4;rw [h4];by_cases h5:eE ch ea [] ej
    ·rw [if_pos h5,bsm];dsimp only
     have hl:=(rT ej u fun j hj=>by have:=yZ h5 j hj;omega).1
     rw [aI (by omega),bsm,eY pre suf _,bR pre _,ih (pre++[_]) k _ (by omega) (by simp;omega) (fun r hr=>hj r (.tail _ hr)) (hl.trans hu)];by_cases hs:∀ r∈suf,okR sp.length ch r
     ·rw [if_pos hs,if_pos (fun r hr=>by
       cases hr with
       | head=>exact⟨⟨h1.1,h1.2,h2⟩,h5⟩
       | tail _ hr=>exact hs r hr)];rfl
     ·rw [if_neg hs,if_neg (fun g=>hs fun r hr=>g r (.tail _ hr))]
    ·rw [if_neg h5,if_neg (hn h5 fun g=>g.2)];rfl
   ·rw [if_neg (by omega),if_neg (by omega),if_neg (hn h2 fun g=>g.1.2.2)];by_cases h3:(ej.length:Int)<1
    ·rw [if_pos h3];rfl
    ·rw [if_neg h3,if_pos (by omega)];rfl
  ·rw [if_neg (hn h1 fun g=>⟨g.1.1,g.1.2.1⟩)];by_cases h3:ea<0
   ·rw [if_pos h3];rfl
   ·rw [if_neg h3,if_pos (by omega)];rfl
open Classical in
theorem rd5 (suf:List Bool):∀ (pre:List Bool) (k:Nat),suf.length<k → pre.length+suf.length ≤ 3000000 → rK (pre++suf) k pre.length=some (if ∀ b∈suf,b=true then .inl () else .inr false):=by
 induction suf with
 | nil=>
  intro pre k hk _;obtain _ | k:=k
  ·omega
  rw [rK,if_neg (by simp),if_pos (fun _ h=>by cases h)]
 | cons e suf ih=>
  intro pre k hk hB;obtain _ | k:=k
  ·omega
  simp only [List.length_cons]at hk hB;rw [rK,if_pos (bU _ _ _),bP,bsm];cases e with
  | false=>rw [cond_false,if_neg (fun g=>by have:=g false (.head _);cases this)];rfl
  | true=>
   rw [cond_true,aI (by omega),bsm,eY pre suf _,bR pre _,ih (pre++[_]) k (by omega) (by simp;omega)];by_cases hs:∀ b∈suf,b=true
   ·rw [if_pos hs,if_pos (fun b hb=>by cases hb with | head=>rfl | tail _ hb=>exact hs b hb)]
   ·rw [if_neg hs,if_neg (fun g=>hs fun b hb=>g b (.tail _ hb))]
theorem qH {α:Type} {z:α} {n:Nat} (h:n ≤ 1000000000):mk z (n:Int)=some (List.replicate n z):=by
 unfold mk;rw [if_pos (by omega)];simp
open Classical in
theorem parts_eq {fuel:Nat} {d:ScopeDef} (hf:4000000 ≤ fuel) (hs:smD d):aAr fuel d=some (decide (okD d)):=by
 obtain⟨ch,sp,ru⟩:=d
 obtain⟨s1,s2,s3,s4⟩:=hs
 simp only at s1 s2 s3 s4
 rw [aAr]
 dsimp only
 by_cases h0:ch.length ≤ 30 ∧ sp.length ≤ 30 ∧ ru.length ≤ 30
 ·rw [if_neg (by omega),if_neg (by omega),if_neg (by omega),qH (by omega),bsm];have e1:=rd1 (sp:=sp) (ru:=ru) ch [] fuel (by omega) (by simp;omega)
  have e2:=rd2 (ch:=ch) (ru:=ru) sp [] fuel (by omega) (by simp;omega)
  have e3:=rd3 (fuel:=fuel) (ch:=ch) (sp:=sp) (by omega) ru [] fuel (List.replicate ch.length false) (by omega) (by simp;omega) (fun r hr=>by have:=s4 r hr;omega) (by simp)
  simp only [List.nil_append,List.length_nil,Int.natCast_zero]at e1 e2 e3;rw [e1];by_cases h1:∀ c∈ch,fD sp.length c
  ·rw [if_pos h1,bsm];dsimp only
   rw [e2];by_cases h2:eV 0 sp
   ·rw [if_pos h2,bsm];dsimp only
    rw [e3];by_cases h3:∀ r∈ru,okR sp.length ch r
    ·rw [if_pos h3,bsm];dsimp only
     obtain⟨k1,k2⟩:=aCH (k:=sp.length) rfl ru (List.replicate ch.length false) (by simp) h3
     have e5:=rd5 (setR (List.replicate ch.length false) ru) [] fuel (by rw [k1];omega) (by simp [k1];omega)
     simp only [List.nil_append,List.length_nil,Int.natCast_zero]at e5;rw [e5];have hall:(∀ b∈setR (List.replicate ch.length false) ru,b=true) ↔ ∀ i:Nat,i<ch.length → ∃ r∈ru,(i:Int)∈r.Joins:=by
      constructor
      ·intro g i hi;have h9:(setR (List.replicate ch.length false) ru)[i]? =some true:=by
        rw [List.getElem?_eq_getElem (by omega)];congr 1;exact g _ (List.getElem_mem _)
       rcases(k2 i).1 h9 with h | h
       ·simp [hi]at h
       ·exact h
      ·intro g b hb;obtain⟨i,hi,rfl⟩:=List.getElem_of_mem hb;have h9:=(k2 i).2 (.inr (g i (by omega)))
       rw [List.getElem?_eq_getElem hi]at h9;exact Option.some.inj h9
     by_cases h4:∀ b∈setR (List.replicate ch.length false) ru,b=true
     ·rw [if_pos h4,bsm];dsimp only
      rw [decide_eq_true (show okD ⟨ch,sp,ru⟩from⟨h0,h1,h2,h3,hall.1 h4⟩)]
     ·rw [if_neg h4,bsm];dsimp only
      rw [decide_eq_false (fun g:okD ⟨ch,sp,ru⟩=>h4 (hall.2 g.2.2.2.2))]
    ·rw [if_neg h3,bsm];dsimp only
     rw [decide_eq_false (fun g:okD ⟨ch,sp,ru⟩=>h3 g.2.2.2.1)]
   ·rw [if_neg h2,bsm];dsimp only
    rw [decide_eq_false (fun g:okD ⟨ch,sp,ru⟩=>h2 g.2.2.1)]
  ·rw [if_neg h1,bsm];dsimp only
   rw [decide_eq_false (fun g:okD ⟨ch,sp,ru⟩=>h1 g.2.1)]
 ·rw [decide_eq_false (fun g:okD ⟨ch,sp,ru⟩=>h0 g.1)];by_cases h1:(30:Int)<ch.length
  ·rw [if_pos h1]
  ·rw [if_neg h1];by_cases h2:(30:Int)<sp.length
   ·rw [if_pos h2]
   ·rw [if_neg h2,if_pos (by omega)]
open Go.SX Go.SW Go.Dt
def many (op:Int):Int:=if op=8 ∨ op=13 ∨ op=15 then 2 else if op=1 ∨ op=2 ∨ op=9 ∨ op=10 ∨ op=11 ∨ op=12 then 1 else 0
structure okI (dl len:Nat) (n:Int) (i:CodeIns):Prop where
 op:1 ≤ i.Op ∧ i.Op ≤ 16
 a:0<many i.Op ∨ i.A=0
 b:1<many i.Op ∨ i.B=0
 int:i.Op=1 → -1000000000 ≤ i.A ∧ i.A ≤ 1000000000
 send:i.Op=8 → 0 ≤ i.B ∧ i.B ≤ 3
 jump:i.Op=9 ∨ i.Op=10 → n<i.A ∧ i.A<(len:Int)
 df:i.Op=11 → i.A<(dl:Int)
 pos:i.Op≠1 → 0 ≤ i.A ∧ 0 ≤ i.B
def inI (len:Nat) (i:CodeIns):Prop:=i.Op=13 ∨ i.Op=15 → i.B<(len:Int)
def right (dl len:Nat) (i:CodeIns):Prop:=if i.Op=1 then -1000000000 ≤ i.A ∧ i.A ≤ 1000000000 else if i.Op=2 ∨ i.Op=12 then 0 ≤ i.A else if i.Op=8 then 0 ≤ i.A ∧ 0 ≤ i.B ∧ i.B ≤ 3 else if i.Op=11 then 0 ≤ i.A ∧ i.A<(dl:Int) else if i.Op=13 ∨ i.Op=15 then 0 ≤ i.A ∧ 0 ≤ i.B ∧ i.B<(len:Int) else True
theorem aDu {dl len:Nat} {n:Int} {i:CodeIns} (hn:0 ≤ n):okI dl len n i ∧ inI len i ↔ (1 ≤ i.Op ∧ i.Op ≤ 16) ∧ right dl len i ∧ (0<many i.Op ∨ i.A=0) ∧ (1<many i.Op ∨ i.B=0) ∧ (i.Op=9 ∨ i.Op=10 → n<i.A ∧ i.A<(len:Int)):=by
 obtain⟨op,A,B⟩:=i
 constructor
 ·rintro⟨h,h2⟩
  refine⟨h.op,?_,h.a,h.b,h.jump⟩;unfold inI at h2;have h3:=h.int;have h4:=h.send;have h5:=h.df;have h6:=h.pos
  unfold right;simp only at *
  repeat' split
  all_goals first | trivial | omega
 ·rintro⟨h1,h2,h3,h4,h5⟩
  unfold right at h2;unfold many at h3 h4;simp only at *
  refine⟨⟨h1,by unfold many;exact h3,by unfold many;exact h4,?_,?_,h5,?_,?_⟩,?_⟩
  all_goals simp only [inI]
  all_goals intro g
  all_goals (repeat' split at h2) <;> (repeat' split at h3) <;> (repeat' split at h4) <;> omega
open Classical in
theorem kindOf {op:Int} (h:1 ≤ op ∧ op ≤ 16):∃ y,idx xM op=some y ∧ y.many=many op ∧ ∀ (x:Code_checker) (a b:Int),zC y.right x ⟨op,a,b⟩=some (x,decide (right x.CodeProg.Defs.length x.CodeProg.Code.length ⟨op,a,b⟩)):=by
 have hx:∀ x:Code_checker,(⟨(⟨x.CodeProg.Free,x.CodeProg.Defs,x.CodeProg.Code,x.CodeProg.Main⟩:CodeProg),x.begins,x.last,x.levels,x.todo⟩:Code_checker)=x:=fun ⟨⟨_,_,_,_⟩,_,_,_,_⟩=>rfl
 have k1:∀ (x:Code_checker) (i:CodeIns),rH x i=some (x,decide (-1000000000 ≤ i.A ∧ i.A ≤ 1000000000)):=fun x i=>by
  rw [rH,hx];by_cases h:-1000000000 ≤ i.A
  ·rw [if_pos h,bsm];simp [h]
  ·rw [if_neg h,bsm];simp [h]
 have k2:∀ (x:Code_checker) (i:CodeIns),rP x i=some (x,decide (0 ≤ i.A ∧ 0 ≤ i.B ∧ i.B ≤ 3)):=fun x i=>by
  rw [rP,hx];by_cases h:0 ≤ i.A
  ·rw [if_pos h];by_cases h2:0 ≤ i.B
   ·rw [if_pos h2,bsm];simp [h,h2]
   ·rw [if_neg h2,bsm];simp [h2]
  ·rw [if_neg h,bsm];simp [h]
 have k3:∀ (x:Code_checker) (i:CodeIns),vN x i=some (x,decide (0 ≤ i.A ∧ i.A<(x.CodeProg.Defs.length:Int))):=fun x i=>by
  rw [vN,hx];by_cases h:0 ≤ i.A
  ·rw [if_pos h,bsm];simp [h]
  ·rw [if_neg h,bsm];simp [h]
 have k4:∀ (x:Code_checker) (i:CodeIns),tX x i=some (x,decide (0 ≤ i.A ∧ 0 ≤ i.B ∧ i.B<(x.CodeProg.Code.length:Int))):=fun ⟨⟨F,D,C,M⟩,b,la,lv,td⟩ i=>by
  rw [tX];by_cases h:0 ≤ i.A
  ·rw [if_pos h,nV,bsm,bsm];simp [h]
  ·rw [if_neg h,bsm];simp [h]
 have k5:∀ (x:Code_checker) (i:CodeIns),vF x i=some (x,decide (0 ≤ i.A ∧ 0 ≤ i.B ∧ i.B<(x.CodeProg.Code.length:Int))):=fun ⟨⟨F,D,C,M⟩,b,la,lv,td⟩ i=>by
  rw [vF];by_cases h:0 ≤ i.A
  ·rw [if_pos h,nV,bsm,bsm];simp [h]
  ·rw [if_neg h,bsm];simp [h]
 have ks:∀ (x:Code_checker) (i:CodeIns),tL x i=some (x,decide (0 ≤ i.A)):=fun x i=>by rw [tL,hx]
 have ko:∀ (x:Code_checker) (i:CodeIns),rD x i=some (x,true):=fun x i=>by rw [rD,hx]
 have hc:op=1 ∨ op=2 ∨ op=3 ∨ op=4 ∨ op=5 ∨ op=6 ∨ op=7 ∨ op=8 ∨ op=9 ∨ op=10 ∨ op=11 ∨ op=12 ∨ op=13 ∨ op=14 ∨ op=15 ∨ op=16:=by omega
 rcases hc with rfl | rfl | rfl | rfl | rfl | rfl | rfl | rfl | rfl | rfl | rfl | rfl | rfl | rfl | rfl | rfl <;> refine⟨_,rfl,rfl,fun x a b=>?_⟩
 ·exact(k1 x _).trans (by simp [right])
 ·exact(ks x _).trans (by simp [right])
 ·exact(ko x ⟨3,a,b⟩).trans (by simp [right])
 ·exact(ko x ⟨4,a,b⟩).trans (by simp [right])
 ·exact(ko x ⟨5,a,b⟩).trans (by simp [right])
 ·exact(ko x ⟨6,a,b⟩).trans (by simp [right])
 ·exact(ko x ⟨7,a,b⟩).trans (by simp [right])
 ·exact(k2 x _).trans (by simp [right])
 ·exact(ko x ⟨9,a,b⟩).trans (by simp [right])
 ·exact(ko x ⟨10,a,b⟩).trans (by simp [right])
 ·exact(k3 x _).trans (by simp [right])
 ·exact(ks x _).trans (by simp [right])
 ·exact(k4 x _).trans (by simp [right])
 ·exact(ko x ⟨14,a,b⟩).trans (by simp [right])
 ·exact(k5 x _).trans (by simp [right])
 ·exact(ko x ⟨16,a,b⟩).trans (by simp [right])
def gK (dl len:Nat):Nat → List CodeIns → Prop
 | _,[]=>True
 | n,i :: l=>(okI dl len n i ∧ inI len i) ∧ gK dl len (n+1) l
def dE:List Int → List CodeIns → Prop
 | _,[]=>True
 | ds,i :: l=>(i.Op=11 → i.A ∉ ds) ∧ dE (if i.Op=11 then ds++[i.A] else ds) l
def dK:List Int → List CodeIns → List Int
 | ds,[]=>ds
 | ds,i :: l=>dK (if i.Op=11 then ds++[i.A] else ds) l
theorem aAK:∀ (l:List Int) (g:aC Int Bool) (k:Int),(eB g l).get k=if k∈l then some true else g.get k
 | [],g,k=>by simp [eB]
 | j :: l,g,k=>by
  show(eB (g.upd j true) l).get k=_
  rw [aAK l];by_cases h:k∈l
  ·rw [if_pos h,if_pos (.tail _ h)]
  ·rw [if_neg h];by_cases e:k=j
   ·subst e;rw [if_pos (.head _)];simp [aC.upd]
   ·rw [if_neg (by simp [e,h])];simp [aC.upd,e]
theorem aCJ (g:aC Int Bool) (l:List Int) (j:Int):eB g (l++[j])=(eB g l).upd j true:=by simp [eB]
theorem known_eq (a:Int):vC a=some (decide (1 ≤ a ∧ a ≤ 16)):=by
 rw [vC]
 by_cases h:1 ≤ a
 ·rw [if_pos h,bsm];simp [h]
 ·rw [if_neg h,bsm];simp [h]
theorem bb {α γ δ:Type} {T:Option α} {G:α → Option γ} {G':γ → Option δ} {z:α} {r:Option δ} (h:T=some z) (k:(G z).bind G'=r):(T.bind G).bind G'=r:=by rw [h,bsm];exact k
open Classical in
theorem pi1 {F M:Int} {D:List ScopeDef} {b la td:List Int} {lv:aC Int CodeLevel} {x0:Code_checker} (suf:List CodeIns):∀ (pre:List CodeIns) (k:Nat) (ds:List Int),x0.CodeProg.Code=pre++suf → suf.length<k → pre.length+suf.length ≤ 3000000 → (eB aC.none ds).size=ds.length →
 kA x0 k pre.length F D (pre++suf) M b la lv td (eB aC.none ds)=some (if gK D.length (pre++suf).length pre.length suf ∧ dE ds suf then .inl (F,D,pre++suf,M,b,la,lv,td,eB aC.none (dK ds suf)) else .inr (.inr W)) ∧ (dE ds suf → (eB aC.none (dK ds suf)).size=(dK ds suf).length):=by
 induction suf with
 | nil=>
  intro pre k ds hx hk _ hs;obtain _ | k:=k
  ·omega
  exact⟨by rw [kA,hx,if_neg (by simp),if_pos ⟨trivial,trivial⟩];rfl,fun _=>hs⟩
 | cons e suf ih=>
  intro pre k ds hx hk hB hs;obtain _ | k:=k
  ·omega
  simp only [List.length_cons]at hk hB;have hle:(pre++[e]).length=pre.length+1:=by simp
  have hsn:pre++e :: suf=(pre++[e])++suf:=eY pre suf e;have hrest:∀ ds',(eB aC.none ds').size=ds'.length → (okI D.length (pre++e :: suf).length pre.length e ∧ inI (pre++e :: suf).length e) → (e.Op=11 → e.A ∉ ds) → ds'=(if e.Op=11 then ds++[e.A] else ds) →
   ((chk ((pre.length:Int)+1)).bind fun z=>kA x0 k z F D (pre++e :: suf) M b la lv td (eB aC.none ds'))=some (if gK D.length (pre++e :: suf).length pre.length (e :: suf) ∧ dE ds (e :: suf)then .inl (F,D,pre++e :: suf,M,b,la,lv,td,eB aC.none (dK ds (e :: suf))) else .inr (.inr W)):=by
   intro ds' h1 h2 h3 h4;have:=(ih (pre++[e]) k ds' (by rw [hx,hsn]) (by omega) (by simp;omega) h1).1
   rw [aI (by omega),bsm,bR,hsn,this,hle];congr 1
   subst h4;rw [hsn]at h2;by_cases g:gK D.length (pre++[e]++suf).length (pre.length+1) suf ∧ dE (if e.Op=11 then ds++[e.A] else ds) suf
   ·rw [if_pos g,if_pos (show gK D.length (pre++[e]++suf).length pre.length (e :: suf) ∧ dE ds (e :: suf)from⟨⟨h2,g.1⟩,h3,g.2⟩)];rfl
   ·rw [if_neg g,if_neg (fun q:gK D.length (pre++[e]++suf).length pre.length (e :: suf) ∧ dE ds (e :: suf)=>g ⟨q.1.2,q.2.2⟩)]
  have hsz:e.A ∉ ds → (eB aC.none (ds++[e.A])).size=(ds++[e.A]).length:=fun h=>by
   rw [aCJ];have:((eB aC.none ds).get e.A).isSome=false:=by rw [aAK,if_neg h];rfl
   simp [aC.upd,this,hs]
  refine⟨?_,fun h=>?_⟩
  ·rw [kA,hx,if_pos (bU _ _ _),bP];simp only [bsm];rw [known_eq,bsm];have hneg:¬ (okI D.length (pre++e :: suf).length pre.length e ∧ inI (pre++e :: suf).length e) → (some (if gK D.length (pre++e :: suf).length pre.length (e :: suf) ∧ dE ds (e :: suf)then .inl (F,D,pre++e :: suf,M,b,la,lv,td,eB aC.none (dK ds (e :: suf))) else .inr (.inr W)):Option ((Int × List ScopeDef × List CodeIns × Int × List Int × List Int × aC Int CodeLevel × List Int × aC Int Bool) ⊕ (Code_checker ⊕ Value)))=some (.inr (.inr W)):=fun g=>by
    rw [if_neg (fun q=>g q.1.1)]
   rw [aDu (by omega)]at hneg;by_cases h1:1 ≤ e.Op ∧ e.Op ≤ 16
   ·obtain⟨y,y1,y2,y3⟩:=kindOf h1;rw [decide_eq_true h1,dW,bsm];simp only [y1,bsm,y3,y2];by_cases h2:right D.length (pre++e :: suf).length e
    ·rw [decide_eq_true (show right D.length (pre++e :: suf).length ⟨e.Op,e.A,e.B⟩from h2),cond_true];by_cases h3:(0<many e.Op ∨ e.A=0) ∧ (1<many e.Op ∨ e.B=0)
     ·refine bb (z:= .inl (F,D,pre++e :: suf,M,b,la,lv,td)) ?_ ?_
      ·by_cases m0:0<many e.Op
       ·rw [if_pos m0];by_cases m1:1<many e.Op
        ·rw [if_pos m1]
        ·rw [if_neg m1,decide_eq_true (h3.2.resolve_left m1),dW,bsm]
       ·rw [if_neg m0,if_pos (h3.1.resolve_left m0)];by_cases m1:1<many e.Op
        ·rw [if_pos m1]
        ·rw [if_neg m1,decide_eq_true (h3.2.resolve_left m1),dW,bsm]
      dsimp only
      by_cases h4:e.Op=9 ∨ e.Op=10 → (pre.length:Int)<e.A ∧ e.A<((pre++e :: suf).length:Int)
      ·have hok:=(aDu (by omega)).2 ⟨h1,h2,h3.1,h3.2,h4⟩
       refine bb (z:= .inl ()) ?_ ?_
       ·by_cases o9:e.Op=9
        ·rw [if_pos o9,if_pos (h4 (.inl o9)).1,decide_eq_true (h4 (.inl o9)).2,dW,bsm]
        ·rw [if_neg o9];by_cases o10:e.Op=10
         ·rw [if_pos o10,if_pos (h4 (.inr o10)).1,decide_eq_true (h4 (.inr o10)).2,dW,bsm]
         ·rw [if_neg o10]
       dsimp only
       by_cases h6:e.Op=11
       ·rw [if_pos h6,aAK];by_cases h7:e.A∈ds
        ·rw [if_pos h7];simp only [Option.getD_some,Bool.not_true,cC,bsm];rw [if_neg (fun q=>q.2.1 h6 h7)]
        ·rw [if_neg h7];have hg:(aC.none:aC Int Bool).get e.A=none:=rfl;simp only [hg,Option.getD_none,Bool.not_false,dW,bsm];rw [← aCJ];exact hrest _ (hsz h7) hok (fun _=>h7) (by rw [if_pos h6])
       ·rw [if_neg h6,bsm];exact hrest _ hs hok (fun g=>absurd g h6) (by rw [if_neg h6])
      ·rw [hneg (fun q=>h4 q.2.2.2.2)];have o:e.Op=9 ∨ e.Op=10:=Classical.byContradiction fun g=>h4 fun q=>absurd q g
       have h5:¬ ((pre.length:Int)<e.A ∧ e.A<((pre++e :: suf).length:Int)):=fun g=>h4 fun _=>g
       rcases o with o | o
       ·rw [if_pos o];by_cases q:(pre.length:Int)<e.A
        ·rw [if_pos q,decide_eq_false (fun w=>h5 ⟨q,w⟩),cC];rfl
        ·rw [if_neg q,cC];rfl
       ·rw [if_neg (by omega),if_pos o];by_cases q:(pre.length:Int)<e.A
        ·rw [if_pos q,decide_eq_false (fun w=>h5 ⟨q,w⟩),cC];rfl
        ·rw [if_neg q,cC];rfl
     ·rw [hneg (fun q=>h3 ⟨q.2.2.1,q.2.2.2.1⟩)];by_cases m0:0<many e.Op
      ·rw [if_pos m0];have m1:¬ 1<many e.Op:=fun q=>h3 ⟨.inl m0, .inl q⟩
       rw [if_neg m1,decide_eq_false (fun q=>h3 ⟨.inl m0, .inr q⟩),cC];rfl
      ·rw [if_neg m0];by_cases a0:e.A=0
       ·rw [if_pos a0];have m1:¬ 1<many e.Op:=fun q=>h3 ⟨.inr a0, .inl q⟩
        rw [if_neg m1,decide_eq_false (fun q=>h3 ⟨.inr a0, .inr q⟩),cC];rfl
       ·rw [if_neg a0,cC];rfl
    ·rw [hneg (fun q=>h2 q.2.1),decide_eq_false (show ¬ right D.length (pre++e :: suf).length ⟨e.Op,e.A,e.B⟩from h2),cC];rfl
   ·rw [hneg (fun q=>h1 q.1),decide_eq_false h1,cC];rfl
  ·by_cases h6:e.Op=11
   ·have:=(ih (pre++[e]) k (ds++[e.A]) (by rw [hx,hsn]) (by omega) (by simp;omega) (hsz (h.1 h6))).2
    simp only [dE,dK,if_pos h6]at h ⊢;exact this h.2
   ·have:=(ih (pre++[e]) k ds (by rw [hx,hsn]) (by omega) (by simp;omega) hs).2
    simp only [dE,dK,if_neg h6]at h ⊢;exact this h.2
open Classical in
theorem aGn {fuel:Nat} {x:Code_checker} (hf:4000000 ≤ fuel) (hc:x.CodeProg.Code.length ≤ 2000000):
 sF fuel x=some (if (gK x.CodeProg.Defs.length x.CodeProg.Code.length 0 x.CodeProg.Code ∧ dE [] x.CodeProg.Code) ∧ (dK [] x.CodeProg.Code).length=x.CodeProg.Defs.length then .inl x else .inr W):=by
 obtain⟨⟨F,D,C,M⟩,b,la,lv,td⟩:=x
 simp only at hc
 obtain⟨e1,e2⟩:=pi1 (F:=F) (M:=M) (D:=D) (b:=b) (la:=la) (td:=td) (lv:=lv) (x0:=⟨⟨F,D,C,M⟩,b,la,lv,td⟩) C [] fuel [] rfl (by omega) (by simp;omega) rfl
 simp only [List.nil_append,List.length_nil,Int.natCast_zero]at e1
 have e3:eB aC.none []=aC.none:=rfl
 rw [e3]at e1
 rw [sF,aAd,bsm]
 dsimp only
 rw [e1]
 by_cases h:gK D.length C.length 0 C ∧ dE [] C
 ·rw [if_pos h,bsm];dsimp only
  rw [e2 h.2];by_cases h2:(dK [] C).length=D.length
  ·rw [decide_eq_true (by omega),dW,bsm,if_pos ⟨h,h2⟩]
  ·rw [decide_eq_false (by omega),cC,bsm,if_neg (fun g=>h2 g.2)]
 ·rw [if_neg h,bsm,if_neg (fun g=>h g.1)]
open Go.SX Go.SW Go.Dt
theorem b1 {α γ:Type} {T:Option α} {G:α → Option γ} {z:α} {r:Option γ} (h:T=some z) (k:G z=r):T.bind G=r:=by rw [h,bsm];exact k
theorem many_eq (op:Int):aA2 op=some (if 1 ≤ op ∧ op ≤ 16 then many op else -1):=by
 by_cases h:1 ≤ op ∧ op ≤ 16
 ·rw [if_pos h];have hc:op=1 ∨ op=2 ∨ op=3 ∨ op=4 ∨ op=5 ∨ op=6 ∨ op=7 ∨ op=8 ∨ op=9 ∨ op=10 ∨ op=11 ∨ op=12 ∨ op=13 ∨ op=14 ∨ op=15 ∨ op=16:=by omega
  rcases hc with rfl | rfl | rfl | rfl | rfl | rfl | rfl | rfl | rfl | rfl | rfl | rfl | rfl | rfl | rfl | rfl <;> rfl
 ·rw [if_neg h,aA2];have:op≠1 ∧ op≠2 ∧ op≠3 ∧ op≠4 ∧ op≠5 ∧ op≠6 ∧ op≠7 ∧ op≠8 ∧ op≠9 ∧ op≠10 ∧ op≠11 ∧ op≠12 ∧ op≠13 ∧ op≠14 ∧ op≠15 ∧ op≠16:=by omega
  simp [this]
def dR (C:List CodeIns) (n:Nat) (i:CodeIns):Prop:=i.Op=9 ∨ i.Op=10 → ∀ k:Nat,n ≤ k → (k:Int)<i.A → ∀ j,C[k]? =some j → j.Op≠16
open Classical in
theorem ro1 {c:CodeProg} {y:CodeIns} {n:Nat} (hA:y.A<(c.Code.length:Int)):∀ (k m:Nat),n ≤ m → (m:Int) ≤ y.A → c.Code.length - m<k → c.Code.length ≤ 2000000 → (∀ q:Nat,n ≤ q → q<m → ∀ j,c.Code[q]? =some j → j.Op≠16) →
 yB c y k m=some (if ∀ q:Nat,n ≤ q → (q:Int)<y.A → ∀ j,c.Code[q]? =some j → j.Op≠16 then .inl () else .inr (.inr false))
 | k+1,m,hm,hmA,hk,hc,hq=>by
  rw [yB];by_cases h:(m:Int)<y.A
  ·have hlt:m<c.Code.length:=by omega
   rw [if_pos h,dU (by omega) (by omega),bsm];simp only [Int.toNat_natCast];by_cases h2:(c.Code[m]).Op=16
   ·rw [if_pos h2,if_neg (fun g=>g m hm h _ (List.getElem?_eq_getElem hlt) h2)];rfl
   ·rw [if_neg h2,aI (by omega),bsm];have:=ro1 (c:=c) (y:=y) (n:=n) hA k (m+1) (by omega) (by omega) (by omega) hc fun q h3 h4 j hj=>by
     rcases Nat.lt_or_ge q m with h5 | h5
     ·exact hq q h3 h5 j hj
     ·have:q=m:=by omega
      subst this;rw [List.getElem?_eq_getElem hlt]at hj;cases hj;exact h2
    simpa using this
  ·rw [if_neg h,if_pos];intro q h3 h4 j hj;exact hq q h3 (by omega) j hj
open Classical in
theorem aFt {fuel:Nat} {c:CodeProg} {n:Nat} {i:CodeIns} (hf:4000000 ≤ fuel) (hc:c.Code.length ≤ 2000000) (hi:c.Code[n]? =some i):
 zH fuel c n=some (decide (okI c.Defs.length c.Code.length n i ∧ dR c.Code n i)):=by
 rw [zH,eA hi,bsm,many_eq,bsm]
 have hneg:∀ {P:Prop},¬ P → (okI c.Defs.length c.Code.length n i → P) → decide (okI c.Defs.length c.Code.length n i ∧ dR c.Code n i)=false:=fun h1 h2=>decide_eq_false fun g=>h1 (h2 g.1)
 by_cases h1:1 ≤ i.Op ∧ i.Op ≤ 16
 ·rw [if_pos h1];have hm:0 ≤ many i.Op:=by
   unfold many
   repeat' split
   all_goals omega
  by_cases h2:(0<many i.Op ∨ i.A=0) ∧ (1<many i.Op ∨ i.B=0)
  ·refine b1 (z:= .inl ()) ?_ ?_
   ·rw [if_neg (by omega)];by_cases m0:many i.Op<1
    ·rw [if_pos m0,if_neg (fun g=>g (h2.1.resolve_left (by omega))),if_pos (by omega),if_neg (fun g=>g (h2.2.resolve_left (by omega)))]
    ·rw [if_neg m0];by_cases m1:many i.Op<2
     ·rw [if_pos m1,if_neg (fun g=>g (h2.2.resolve_left (by omega)))]
     ·rw [if_neg m1]
   dsimp only
   by_cases o1:i.Op=1
   ·rw [if_pos o1];have e:decide (okI c.Defs.length c.Code.length n i ∧ dR c.Code n i)=decide (-1000000000 ≤ i.A ∧ i.A ≤ 1000000000):=decide_eq_decide.2 ⟨fun g=>g.1.int o1,fun p=>⟨⟨h1,h2.1,h2.2,fun _=>p,fun g=>by omega,fun g=>by omega,fun g=>by omega,fun g=>absurd o1 g⟩,fun g=>by omega⟩⟩
    rw [e];by_cases a:-1000000000 ≤ i.A
    ·rw [if_pos a,bsm];simp [a]
    ·rw [if_neg a,bsm];simp [a]
   ·rw [if_neg o1];by_cases o8:i.Op=8
    ·rw [if_pos o8];have e:decide (okI c.Defs.length c.Code.length n i ∧ dR c.Code n i)=decide (0 ≤ i.A ∧ 0 ≤ i.B ∧ i.B ≤ 3):=decide_eq_decide.2 ⟨fun g=>⟨(g.1.pos o1).1,g.1.send o8⟩,fun p=>⟨⟨h1,h2.1,h2.2,fun g=>absurd g o1,fun g=>p.2,fun g=>by omega,fun g=>by omega,fun g=>⟨p.1,p.2.1⟩⟩,fun g=>by omega⟩⟩
     rw [e];by_cases a:0 ≤ i.A
     ·rw [if_pos a];by_cases b:0 ≤ i.B
      ·rw [if_pos b,bsm];simp [a,b]
      ·rw [if_neg b,bsm];simp [b]
     ·rw [if_neg a,bsm];simp [a]
    ·rw [if_neg o8];by_cases o9:i.Op=9 ∨ i.Op=10
     ·have e0:(if i.Op=9 then some (decide (i.Op=9)) else some (decide (i.Op=10)))=some true:=by
       rcases o9 with o | o
       ·rw [if_pos o,decide_eq_true o]
       ·rw [if_neg (by omega),decide_eq_true o]
      have hb0:i.B=0:=h2.2.resolve_left (by unfold many;rcases o9 with o | o <;> rw [o] <;> decide)
      rw [e0,bsm,cond_true];have e:decide (okI c.Defs.length c.Code.length n i ∧ dR c.Code n i)=decide (((n:Int)<i.A ∧ i.A<(c.Code.length:Int)) ∧ ∀ q:Nat,n ≤ q → (q:Int)<i.A → ∀ j,c.Code[q]? =some j → j.Op≠16):=
       decide_eq_decide.2 ⟨fun g=>⟨g.1.jump o9,g.2 o9⟩,fun p=>⟨⟨h1,h2.1,h2.2,fun g=>absurd g o1,fun g=>absurd g o8,fun _=>p.1,fun g=>by omega,fun g=>⟨by have:=p.1.1;omega,by omega⟩⟩,fun _=>p.2⟩⟩
      rw [e];by_cases a:i.A ≤ (n:Int)
      ·rw [if_pos a];simp;omega
      ·rw [if_neg a];by_cases b:(c.Code.length:Int) ≤ i.A
       ·rw [if_pos b];simp;omega
       ·rw [if_neg b,ro1 (n:=n) (by omega) fuel n (Nat.le_refl _) (by omega) (by omega) hc (fun q h3 h4=>by omega)]
        by_cases g:∀ q:Nat,n ≤ q → (q:Int)<i.A → ∀ j,c.Code[q]? =some j → j.Op≠16
        ·have hz:((n:Int)<i.A ∧ i.A<(c.Code.length:Int)) ∧ ∀ q:Nat,n ≤ q → (q:Int)<i.A → ∀ j,c.Code[q]? =some j → j.Op≠16:=⟨⟨by omega,by omega⟩,g⟩
         rw [if_pos g,decide_eq_true hz];rfl
        ·have hz:¬ (((n:Int)<i.A ∧ i.A<(c.Code.length:Int)) ∧ ∀ q:Nat,n ≤ q → (q:Int)<i.A → ∀ j,c.Code[q]? =some j → j.Op≠16):=fun q=>g q.2
         rw [if_neg g,decide_eq_false hz];rfl
     ·have e0:(if i.Op=9 then some (decide (i.Op=9)) else some (decide (i.Op=10)))=some false:=by rw [if_neg (fun g=>o9 (.inl g)),decide_eq_false (fun g=>o9 (.inr g))]
      rw [e0,bsm,cond_false];by_cases o11:i.Op=11
      ·rw [if_pos o11];have hb0:i.B=0:=h2.2.resolve_left (by unfold many;rw [o11];decide)
       have e:decide (okI c.Defs.length c.Code.length n i ∧ dR c.Code n i)=decide (0 ≤ i.A ∧ i.A<(c.Defs.length:Int)):=decide_eq_decide.2 ⟨fun g=>⟨(g.1.pos o1).1,g.1.df o11⟩,fun p=>⟨⟨h1,h2.1,h2.2,fun g=>absurd g o1,fun g=>absurd g o8,fun g=>absurd g o9,fun _=>p.2,fun g=>⟨p.1,by omega⟩⟩,fun g=>absurd g o9⟩⟩
       rw [e];by_cases a:0 ≤ i.A
       ·rw [if_pos a,bsm];simp [a]
       ·rw [if_neg a,bsm];simp [a]
      ·rw [if_neg o11,bsm];dsimp only
       have e:decide (okI c.Defs.length c.Code.length n i ∧ dR c.Code n i)=decide (0 ≤ i.A ∧ 0 ≤ i.B):=decide_eq_decide.2 ⟨fun g=>g.1.pos o1,fun p=>⟨⟨h1,h2.1,h2.2,fun g=>absurd g o1,fun g=>absurd g o8,fun g=>absurd g o9,fun g=>absurd g o11,fun _=>p⟩,fun g=>absurd g o9⟩⟩
       rw [e];by_cases a:0 ≤ i.A
       ·rw [if_pos a,bsm];simp [a]
       ·rw [if_neg a,bsm];simp [a]
  ·rw [hneg h2 fun g=>⟨g.a,g.b⟩];refine b1 (z:= .inr false) ?_ rfl;rw [if_neg (by omega)];by_cases m0:many i.Op<1
   ·rw [if_pos m0];by_cases a:i.A=0
    ·rw [if_neg (fun g=>g a),if_pos (by omega),if_pos (fun b=>h2 ⟨.inr a, .inr b⟩)];rfl
    ·rw [if_pos a];rfl
   ·rw [if_neg m0];by_cases m1:many i.Op<2
    ·rw [if_pos m1,if_pos (fun b=>h2 ⟨.inl (by omega), .inr b⟩)];rfl
    ·exact absurd ⟨.inl (by omega), .inl (by omega)⟩ h2
 ·rw [if_neg h1,hneg h1 fun g=>g.op];exact b1 (z:= .inr false) (by rw [if_pos (by omega)];rfl) rfl
open Classical in
theorem once1 {c:CodeProg} {u0:List Bool} (hu0:u0=List.replicate c.Defs.length false) (suf:List CodeIns):∀ (pre:List CodeIns) (k:Nat) (ds:List Int),c.Code=pre++suf → suf.length<k → pre.length+suf.length ≤ 3000000 → ds.length ≤ pre.length → (∀ i∈suf,i.Op=11 → 0 ≤ i.A ∧ i.A<(c.Defs.length:Int)) → (∀ j∈ds,0 ≤ j ∧ j<(c.Defs.length:Int)) →
 nT c k (eT u0 ds) ds.length pre.length=some (if dE ds suf then .inl (eT u0 (dK ds suf),((dK ds suf).length:Int)) else .inr false) ∧ (dE ds suf → ∀ j∈dK ds suf,0 ≤ j ∧ j<(c.Defs.length:Int)):=by
 induction suf with
 | nil=>
  intro pre k ds hc hk _ _ _ hd;obtain _ | k:=k
  ·omega
  exact⟨by rw [nT,hc,if_neg (by simp),if_pos (show dE ds []from trivial)];rfl,fun _=>hd⟩
 | cons e suf ih=>
  intro pre k ds hc hk hB hl hr hd;obtain _ | k:=k
  ·omega
  simp only [List.length_cons]at hk hB;have hsn:pre++e :: suf=(pre++[e])++suf:=eY pre suf e;have hul:u0.length=c.Defs.length:=by rw [hu0];simp
  obtain⟨s1,s2⟩:=rT ds u0 (by rw [hul];exact hd)
  by_cases h6:e.Op=11
  ·have hA:=hr e (.head _) h6;by_cases h7:e.A∈ds
   ·refine⟨?_,fun g=>absurd h7 (g.1 h6)⟩
    have hg:(eT u0 ds)[e.A.toNat]? =some true:=(s2 _).2 (.inr (by rw [Int.toNat_of_nonneg hA.1];exact h7))
    have hx:idx (eT u0 ds) e.A=some true:=by unfold idx;rw [if_pos hA.1,hg]
    rw [nT,hc,if_pos (bU _ _ _)];simp only [bP,bsm];rw [if_pos h6,hx,bsm,cond_true,if_neg (fun g=>g.1 h6 h7)];rfl
   ·obtain⟨i1,i2⟩:=ih (pre++[e]) k (ds++[e.A]) (by rw [hc,hsn]) (by omega) (by simp;omega) (by simp;omega) (fun i hi=>hr i (.tail _ hi)) (fun j hj=>by
     rcases List.mem_append.1 hj with g | g
     ·exact hd j g
     ·rw [List.mem_singleton.1 g];exact hA)
    have hx:idx (eT u0 ds) e.A=some false:=by
     have hlt:e.A.toNat<(eT u0 ds).length:=by rw [s1,hul];omega
     unfold idx;rw [if_pos hA.1,List.getElem?_eq_getElem hlt];congr 1
     cases hb:(eT u0 ds)[e.A.toNat]with
     | false=>rfl
     | true=>
      rcases(s2 e.A.toNat).1 (by rw [List.getElem?_eq_getElem hlt,hb])with g | g
      ·rw [hu0,List.getElem?_replicate]at g;split at g <;> cases g
      ·rw [Int.toNat_of_nonneg hA.1]at g;exact absurd g h7
    have hset:eT u0 (ds++[e.A])=(eT u0 ds).set e.A.toNat true:=by simp [eT]
    constructor
    ·rw [nT,hc,if_pos (bU _ _ _)];simp only [bP,bsm];rw [if_pos h6,hx,bsm,cond_false,bsm,aI (by omega),bsm,bsm];dsimp only
     rw [aI (by omega),bsm,← hset,bR pre e];have e9:((ds.length:Int)+1)=((ds++[e.A]).length:Int):=by simp
     rw [e9,i1];by_cases g:dE (ds++[e.A]) suf
     ·rw [if_pos g,if_pos (show dE ds (e :: suf)from⟨fun _=>h7,by rw [if_pos h6];exact g⟩)];simp only [dK,if_pos h6]
     ·rw [if_neg g,if_neg (fun q:dE ds (e :: suf)=>g (by have:=q.2;rwa [if_pos h6]at this))]
    ·intro g;have:=g.2;rw [if_pos h6]at this;simp only [dK,if_pos h6];exact i2 this
  ·obtain⟨i1,i2⟩:=ih (pre++[e]) k ds (by rw [hc,hsn]) (by omega) (by simp;omega) (by simp;omega) (fun i hi=>hr i (.tail _ hi)) hd
   constructor
   ·rw [nT,hc,if_pos (bU _ _ _)];simp only [bP,bsm];rw [if_neg h6,bsm];dsimp only
    rw [aI (by omega),bsm,bR pre e,i1];by_cases g:dE ds suf
    ·rw [if_pos g,if_pos (show dE ds (e :: suf)from⟨fun q=>absurd q h6,by rw [if_neg h6];exact g⟩)];simp only [dK,if_neg h6]
    ·rw [if_neg g,if_neg (fun q:dE ds (e :: suf)=>g (by have:=q.2;rwa [if_neg h6]at this))]
   ·intro g;have:=g.2;rw [if_neg h6]at this;simp only [dK,if_neg h6];exact i2 this
open Classical in
theorem once_eq {fuel:Nat} {c:CodeProg} (hf:4000000 ≤ fuel) (hc:c.Code.length ≤ 2000000) (hd:c.Defs.length ≤ 2000000) (hr:∀ i∈c.Code,i.Op=11 → 0 ≤ i.A ∧ i.A<(c.Defs.length:Int)):
 aAo fuel c=some (decide (dE [] c.Code ∧ (dK [] c.Code).length=c.Defs.length)):=by
 obtain⟨e1,e2⟩:=once1 (c:=c) (u0:=List.replicate c.Defs.length false) rfl c.Code [] fuel [] rfl (by omega) (by simp;omega) (by simp) hr (fun _ h=>by cases h)
 simp only [List.length_nil,Int.natCast_zero]at e1
 have e3:∀ u,eT u []=u:=fun _=>rfl
 rw [e3]at e1
 rw [aAo,qH (by omega),bsm,e1]
 by_cases h:dE [] c.Code
 ·have hl:=(rT (dK [] c.Code) (List.replicate c.Defs.length false) (by simpa using e2 h)).1
  rw [if_pos h,bsm];dsimp only
  rw [hl,List.length_replicate];congr 1
  by_cases h2:(dK [] c.Code).length=c.Defs.length
  ·rw [decide_eq_true (by omega),decide_eq_true ⟨h,h2⟩]
  ·rw [decide_eq_false (by omega),decide_eq_false (fun g=>h2 g.2)]
 ·rw [if_neg h,bsm,decide_eq_false (fun g=>h g.1)]
open Go.SX Go.SW Go.Dt
def bgD (d:ScopeDef):List Int:=d.Rules.map (·.Node)++d.Spots.map (·.Node)
def iA (i:CodeIns):Bool:=decide (i.Op=13 ∨ i.Op=15)
def onB:List CodeIns → List Int
 | []=>[]
 | i :: l=>(if iA i=true then [i.B] else [])++onB l
def bgs (c:CodeProg):List Int:=c.Main :: (c.Defs.flatMap bgD++onB c.Code)
theorem aEh:∀ l:List CodeIns,(onB l).length ≤ l.length
 | []=>Nat.le_refl _
 | i :: l=>by have:=aEh l;simp only [onB,List.length_append,List.length_cons];split <;> simp <;> omega
structure SmB (c:CodeProg):Prop where
 code:c.Code.length ≤ 2000000
 defs:c.Defs.length ≤ 12
 parts:∀ d∈c.Defs,d.Rules.length ≤ 30 ∧ d.Spots.length ≤ 30
theorem zT {l:List ScopeDef} (h:∀ d∈l,d.Rules.length ≤ 30 ∧ d.Spots.length ≤ 30):(l.flatMap bgD).length ≤ l.length*60:=by
 induction l with
 | nil=>simp
 | cons d l ih=>
  have:=ih fun x hx=>h x (.tail _ hx)
  have:=h d (.head _);simp only [List.flatMap_cons,List.length_append,List.length_cons,bgD,List.length_map];omega
theorem SmB.len {c:CodeProg} (h:SmB c):(bgs c).length ≤ 2001000:=by
 have h1:=zT h.parts
 have h2:=aEh c.Code
 have h3:=h.code
 have h4:=h.defs
 simp only [bgs,List.length_cons,List.length_append];omega
theorem on_eq (a:Int):rW a=some (decide (a=13 ∨ a=15)):=by
 rw [rW]
 by_cases h:a=13
 ·rw [if_pos h,bsm];simp [h]
 ·rw [if_neg h,bsm];simp [h]
theorem aBc (a:Int):qE a=some (decide (a=13 ∨ a=15)):=on_eq a
theorem pb2 {y:ScopeDef} (suf:List ScopeRule):∀ (pre:List ScopeRule) (k:Nat) (acc:List Int),y.Rules=pre++suf → suf.length<k → pre.length+suf.length ≤ 3000000 → acc.length+suf.length ≤ 4000000 → kT y k acc pre.length=some (acc++suf.map (·.Node)):=by
 induction suf with
 | nil=>
  intro pre k acc h hk _ _;obtain _ | k:=k
  ·omega
  rw [kT,h,if_neg (by simp)];simp
 | cons e suf ih=>
  intro pre k acc h hk hB hA;obtain _ | k:=k
  ·omega
  simp only [List.length_cons]at hk hB hA;rw [kT,h,if_pos (bU _ _ _),bP,bsm,dP (by simp;omega),bsm,aI (by omega),bsm,bR pre e,ih (pre++[e]) k _ (by rw [h];simp) (by omega) (by simp;omega) (by simp;omega)];simp
theorem pb3 {y:ScopeDef} (suf:List ScopeSpot):∀ (pre:List ScopeSpot) (k:Nat) (acc:List Int),y.Spots=pre++suf → suf.length<k → pre.length+suf.length ≤ 3000000 → acc.length+suf.length ≤ 4000000 → lS y k acc pre.length=some (acc++suf.map (·.Node)):=by
 induction suf with
 | nil=>
  intro pre k acc h hk _ _;obtain _ | k:=k
  ·omega
  rw [lS,h,if_neg (by simp)];simp
 | cons e suf ih=>
  intro pre k acc h hk hB hA;obtain _ | k:=k
  ·omega
  simp only [List.length_cons]at hk hB hA;rw [lS,h,if_pos (bU _ _ _),bP,bsm,dP (by simp;omega),bsm,aI (by omega),bsm,bR pre e,ih (pre++[e]) k _ (by rw [h];simp) (by omega) (by simp;omega) (by simp;omega)];simp
theorem pb1 {fuel:Nat} {c:CodeProg} (hf:4000000 ≤ fuel) (suf:List ScopeDef):∀ (pre:List ScopeDef) (k:Nat) (acc:List Int),c.Defs=pre++suf → suf.length<k → pre.length+suf.length ≤ 12 → acc.length+suf.length*60 ≤ 3000000 → (∀ d∈suf,d.Rules.length ≤ 30 ∧ d.Spots.length ≤ 30) → lD fuel c k acc pre.length=some (acc++suf.flatMap bgD):=by
 induction suf with
 | nil=>
  intro pre k acc h hk _ _ _;obtain _ | k:=k
  ·omega
  rw [lD,h,if_neg (by simp)];simp
 | cons e suf ih=>
  intro pre k acc h hk hB hA hp;obtain _ | k:=k
  ·omega
  simp only [List.length_cons]at hk hB hA;have he:=hp e (.head _);have e1:=pb2 (y:=e) e.Rules [] fuel acc rfl (by omega) (by simp;omega) (by omega)
  have e2:=pb3 (y:=e) e.Spots [] fuel (acc++e.Rules.map (·.Node)) rfl (by omega) (by simp;omega) (by simp;omega)
  simp only [List.length_nil,Int.natCast_zero]at e1 e2;rw [lD,h,if_pos (bU _ _ _),bP,bsm,e1,bsm,e2,bsm,aI (by omega),bsm,bR pre e,ih (pre++[e]) k _ (by rw [h];simp) (by omega) (by simp;omega) (by simp;omega) (fun d hd=>hp d (.tail _ hd))];simp [bgD]
theorem pb4 {c:CodeProg} (suf:List CodeIns):∀ (pre:List CodeIns) (k:Nat) (acc:List Int),c.Code=pre++suf → suf.length<k → pre.length+suf.length ≤ 3000000 → acc.length+suf.length ≤ 4000000 → lQ c k acc pre.length=some (acc++onB suf):=by
 induction suf with
 | nil=>
  intro pre k acc h hk _ _;obtain _ | k:=k
  ·omega
  rw [lQ,h,if_neg (by simp)];simp [onB]
 | cons e suf ih=>
  intro pre k acc h hk hB hA;obtain _ | k:=k
  ·omega
  simp only [List.length_cons]at hk hB hA;rw [lQ,h,if_pos (bU _ _ _),bP,bsm,on_eq,bsm];by_cases ho:e.Op=13 ∨ e.Op=15
  ·have hi:iA e=true:=decide_eq_true ho;rw [decide_eq_true ho,cond_true,dP (by simp;omega),bsm,bsm,aI (by omega),bsm,bR pre e,ih (pre++[e]) k _ (by rw [h];simp) (by omega) (by simp;omega) (by simp;omega)];simp only [onB,if_pos hi,List.append_assoc]
  ·have hi:¬ iA e=true:=by unfold iA;rw [decide_eq_false ho];simp
   rw [decide_eq_false ho,cond_false,bsm,aI (by omega),bsm,bR pre e,ih (pre++[e]) k _ (by rw [h];simp) (by omega) (by simp;omega) (by omega)];simp only [onB,if_neg hi,List.nil_append]
theorem aGc {fuel:Nat} {c:CodeProg} (hf:4000000 ≤ fuel) (h:SmB c):tB fuel c=some (bgs c):=by
 have h1:=zT h.parts
 have h3:=h.code
 have h4:=h.defs
 have e1:=pb1 (fuel:=fuel) (c:=c) hf c.Defs [] fuel [c.Main] rfl (by omega) (by simp;omega) (by simp;omega) h.parts
 have e2:=pb4 (c:=c) c.Code [] fuel ([c.Main]++c.Defs.flatMap bgD) rfl (by omega) (by simp;omega) (by simp only [List.length_append,List.length_cons,List.length_nil];omega)
 simp only [List.length_nil,Int.natCast_zero]at e1 e2
 rw [tB,e1,bsm,e2,bsm]
 simp [bgs]
theorem rb2 {c:CodeProg} {x:Int} {y:ScopeDef} (hx:idx c.Defs x=some y) (suf:List ScopeRule):∀ (pre:List ScopeRule) (k:Nat) (acc:List Int),y.Rules=pre++suf → suf.length<k → pre.length+suf.length ≤ 3000000 → acc.length+suf.length ≤ 4000000 → tP c x k acc pre.length=some (acc++suf.map (·.Node)):=by
 induction suf with
 | nil=>
  intro pre k acc h hk _ _;obtain _ | k:=k
  ·omega
  rw [tP,hx,bsm,h,if_neg (by simp)];simp
 | cons e suf ih=>
  intro pre k acc h hk hB hA;obtain _ | k:=k
  ·omega
  simp only [List.length_cons]at hk hB hA;rw [tP,hx,bsm,h,if_pos (bU _ _ _),bsm,h,bP,bsm,dP (by simp;omega),bsm,aI (by omega),bsm,bR pre e,ih (pre++[e]) k _ (by rw [h];simp) (by omega) (by simp;omega) (by simp;omega)];simp
theorem rb3 {c:CodeProg} {x:Int} {y:ScopeDef} (hx:idx c.Defs x=some y) (suf:List ScopeSpot):∀ (pre:List ScopeSpot) (k:Nat) (acc:List Int),y.Spots=pre++suf → suf.length<k → pre.length+suf.length ≤ 3000000 → acc.length+suf.length ≤ 4000000 → uH c x k acc pre.length=some (acc++suf.map (·.Node)):=by
 induction suf with
 | nil=>
  intro pre k acc h hk _ _;obtain _ | k:=k
  ·omega
  rw [uH,hx,bsm,h,if_neg (by simp)];simp
 | cons e suf ih=>
  intro pre k acc h hk hB hA;obtain _ | k:=k
  ·omega
  simp only [List.length_cons]at hk hB hA;rw [uH,hx,bsm,h,if_pos (bU _ _ _),bsm,h,bP,bsm,dP (by simp;omega),bsm,aI (by omega),bsm,bR pre e,ih (pre++[e]) k _ (by rw [h];simp) (by omega) (by simp;omega) (by simp;omega)];simp
theorem rb1 {fuel:Nat} {c:CodeProg} (hf:4000000 ≤ fuel) (suf:List ScopeDef):∀ (pre:List ScopeDef) (k:Nat) (acc:List Int),c.Defs=pre++suf → suf.length<k → pre.length+suf.length ≤ 12 → acc.length+suf.length*60 ≤ 3000000 → (∀ d∈suf,d.Rules.length ≤ 30 ∧ d.Spots.length ≤ 30) → uY fuel c k acc pre.length=some (acc++suf.flatMap bgD):=by
 induction suf with
 | nil=>
  intro pre k acc h hk _ _ _;obtain _ | k:=k
  ·omega
  rw [uY,h,if_neg (by simp)];simp
 | cons e suf ih=>
  intro pre k acc h hk hB hA hp;obtain _ | k:=k
  ·omega
  simp only [List.length_cons]at hk hB hA;have he:=hp e (.head _);have hx:idx c.Defs (pre.length:Int)=some e:=by rw [h,bP]
  have e1:=rb2 (y:=e) hx e.Rules [] fuel acc rfl (by omega) (by simp;omega) (by omega)
  have e2:=rb3 (y:=e) hx e.Spots [] fuel (acc++e.Rules.map (·.Node)) rfl (by omega) (by simp;omega) (by simp;omega)
  simp only [List.length_nil,Int.natCast_zero]at e1 e2;rw [uY,if_pos (by rw [h];exact bU _ _ _),e1,bsm,e2,bsm,aI (by omega),bsm,bR pre e,ih (pre++[e]) k _ (by rw [h];simp) (by omega) (by simp;omega) (by simp;omega) (fun d hd=>hp d (.tail _ hd))];simp [bgD]
theorem rb4 {c:CodeProg} (suf:List CodeIns):∀ (pre:List CodeIns) (k:Nat) (acc:List Int),c.Code=pre++suf → suf.length<k → pre.length+suf.length ≤ 3000000 → acc.length+suf.length ≤ 4000000 → tF c k acc pre.length=some (acc++onB suf):=by
 induction suf with
 | nil=>
  intro pre k acc h hk _ _;obtain _ | k:=k
  ·omega
  rw [tF,h,if_neg (by simp)];simp [onB]
 | cons e suf ih=>
  intro pre k acc h hk hB hA;obtain _ | k:=k
  ·omega
  simp only [List.length_cons]at hk hB hA;rw [tF,h,if_pos (bU _ _ _),bP,bsm,aBc,bsm];by_cases ho:e.Op=13 ∨ e.Op=15
  ·have hi:iA e=true:=decide_eq_true ho;rw [decide_eq_true ho,cond_true,bsm,dP (by simp;omega),bsm,bsm,aI (by omega),bsm,bR pre e,ih (pre++[e]) k _ (by rw [h];simp) (by omega) (by simp;omega) (by simp;omega)];simp only [onB,if_pos hi,List.append_assoc]
  ·have hi:¬ iA e=true:=by unfold iA;rw [decide_eq_false ho];simp
   rw [decide_eq_false ho,cond_false,bsm,aI (by omega),bsm,bR pre e,ih (pre++[e]) k _ (by rw [h];simp) (by omega) (by simp;omega) (by omega)];simp only [onB,if_neg hi,List.nil_append]
theorem aDq {fuel:Nat} {c:CodeProg} (hf:4000000 ≤ fuel) (h:SmB c):wX fuel c=some (bgs c):=by
 have h1:=zT h.parts
 have h3:=h.code
 have h4:=h.defs
 have e1:=rb1 (fuel:=fuel) (c:=c) hf c.Defs [] fuel [c.Main] rfl (by omega) (by simp;omega) (by simp;omega) h.parts
 have e2:=rb4 (c:=c) c.Code [] fuel ([c.Main]++c.Defs.flatMap bgD) rfl (by omega) (by simp;omega) (by simp only [List.length_append,List.length_cons,List.length_nil];omega)
 simp only [List.length_nil,Int.natCast_zero]at e1 e2
 rw [wX,e1,bsm,e2,bsm]
 simp [bgs]
def stA:Nat → Bool → List CodeIns → List Int
 | _,_,[]=>[]
 | p,fr,i :: l=>(if fr=true then [(p:Int)] else [])++stA (p+1) (decide (i.Op=16)) l
def gZ:List CodeIns → Bool
 | []=>true
 | [i]=>decide (i.Op=16)
 | _ :: l=>gZ l
theorem stA_ge:∀ (l:List CodeIns) (p:Nat) (fr:Bool),∀ x∈stA p fr l,(p:Int) ≤ x ∧ x<((p+l.length:Nat):Int)
 | [],_,_,x,h=>by cases h
 | i :: l,p,fr,x,h=>by
  simp only [stA,List.mem_append]at h;simp only [List.length_cons];rcases h with h | h
  ·split at h
   ·rw [List.mem_singleton.1 h];omega
   ·cases h
  ·have:=stA_ge l _ _ x h;omega
theorem aAz:∀ (l:List CodeIns) (p:Nat) (fr:Bool),(stA p fr l).Pairwise (fun a b=>a<b)
 | [],_,_=> .nil
 | i :: l,p,fr=>by
  simp only [stA];refine List.pairwise_append.2 ⟨by split <;> simp,aAz l _ _,fun a ha b hb=>?_⟩
  have:=(stA_ge l _ _ b hb).1;split at ha
  ·rw [List.mem_singleton.1 ha];omega
  ·cases ha
theorem aDj:∀ (l:List CodeIns) (p:Nat) (fr:Bool) (x:Int),x∈stA p fr l ↔ ∃ i:Nat,i<l.length ∧ x=((p+i:Nat):Int) ∧ ((i=0 ∧ fr=true) ∨ ∃ j q,i=j+1 ∧ l[j]? =some q ∧ q.Op=16)
 | [],_,_,x=>by simp [stA]
 | e :: l,p,fr,x=>by
  simp only [stA,List.mem_append,aDj l];constructor
  ·rintro(h | ⟨i,h1,h2,h3⟩)
   ·split at h
    ·exact⟨0,by simp,by rw [List.mem_singleton.1 h];simp, .inl ⟨rfl,by assumption⟩⟩
    ·cases h
   ·refine⟨i+1,by simp;omega,by rw [h2];congr 1;omega, .inr ?_⟩
    rcases h3 with⟨rfl,h⟩ | ⟨j,q,rfl,h4,h5⟩
    ·exact⟨0,e,rfl,rfl,of_decide_eq_true h⟩
    ·exact⟨j+1,q,rfl,by simpa using h4,h5⟩
  ·rintro⟨i,h1,h2,h3⟩
   rcases h3 with⟨rfl,rfl⟩ | ⟨j,q,rfl,h4,h5⟩
   ·left;simp [h2]
   ·right
    refine⟨j,by simpa using h1,by rw [h2];congr 1;omega,?_⟩
    cases j with
    | zero=>simp at h4;subst h4;exact .inl ⟨rfl,decide_eq_true h5⟩
    | succ j=>exact .inr ⟨j,q,rfl,by simpa using h4,h5⟩
def iX (l:List CodeIns):Nat:=(l.filter fun i=>decide (i.Op=16)).length
theorem zZ:∀ (l:List CodeIns) (p:Nat) (fr:Bool),l≠[] → gZ l=true → (stA p fr l).length+(if fr=true then 0 else 1)=iX l
 | [],_,_,h,_=>absurd rfl h
 | [i],p,fr,_,h=>by
  have h:decide (i.Op=16)=true:=h;simp only [stA,iX,List.filter,h];split <;> simp
 | i :: j :: l,p,fr,_,h=>by
  have ih:=zZ (j :: l) (p+1) (decide (i.Op=16)) (by simp) h
  have he:iX (i :: j :: l)=(if i.Op=16 then 1 else 0)+iX (j :: l):=by
   unfold iX;rw [List.filter_cons];by_cases g:i.Op=16
   ·rw [if_pos (by simpa using g),if_pos g];simp;omega
   ·rw [if_neg (by simpa using g),if_neg g];simp
  have hs:(stA p fr (i :: j :: l)).length=(if fr=true then 1 else 0)+(stA (p+1) (decide (i.Op=16)) (j :: l)).length:=by
   rw [stA,List.length_append];split <;> rfl
  rw [he,hs,← ih];by_cases g:i.Op=16
  ·simp only [g,decide_true,if_true];split <;> omega
  ·simp only [g,decide_false,if_false];split <;> simp <;> omega
theorem aEQ:∀ {l m:List Int},l.Perm m → l.Pairwise (fun a b=>a ≤ b) → m.Pairwise (fun a b=>a ≤ b) → l=m
 | [],m,h,_,_=>by rw [List.nil_perm.1 h]
 | a :: l,[],h,_,_=>by have:=h.length_eq;simp at this
 | a :: l,b :: m,h,h1,h2=>by
  have hab:a=b:=by
   have g1:a∈b :: m:=h.mem_iff.1 (.head _);have g2:b∈a :: l:=h.mem_iff.2 (.head _);have k1:=List.pairwise_cons.1 h1;have k2:=List.pairwise_cons.1 h2;cases g1 with
   | head=>rfl
   | tail _ g1=>
    cases g2 with
    | head=>rfl
    | tail _ g2=>have:=k1.1 b g2;have:=k2.1 a g1;omega
  subst hab;rw [aEQ (List.Perm.cons_inv h) (List.pairwise_cons.1 h1).2 (List.pairwise_cons.1 h2).2]
theorem qM:∀ {l m:List Int},l.Nodup → (∀ x∈l,x∈m) → m.length ≤ l.length → l.Perm m
 | [],m,_,_,h=>by have:m=[]:=List.eq_nil_of_length_eq_zero (by simpa using h);rw [this]
 | a :: l,m,hn,hs,hl=>by
  have ha:a∈m:=hs a (.head _);have hp:=List.perm_cons_erase ha;have hn2:=List.nodup_cons.1 hn;have hlen:=hp.length_eq;simp only [List.length_cons]at hlen hl;have:=qM (l:=l) (m:=m.erase a) hn2.2 (fun x hx=>(List.mem_erase_of_ne (by intro e;subst e;exact hn2.1 hx)).2 (hs x (.tail _ hx))) (by omega)
  exact(this.cons a).trans hp.symm
theorem pZ (l:List Int):(bS l).Perm l:=List.mergeSort_perm _ _
theorem aDP (l:List Int):(bS l).Pairwise (fun a b=>a ≤ b):=by
 have:=List.pairwise_mergeSort (le:=fun x y:Int=>decide (x ≤ y)) (by intro a b c h1 h2;simp only [decide_eq_true_eq]at *;omega) (by intro a b;simp;omega) l
 exact this.imp fun h=>by simpa using h
def okB (c:CodeProg):Prop:=c.Code≠[] ∧ bS (bgs c)=stA 0 true c.Code ∧ gZ c.Code=true
theorem uS {c:CodeProg} (hne:c.Code≠[]):okB c ↔ (bgs c).Nodup ∧ (∀ b∈bgs c,0 ≤ b ∧ b<(c.Code.length:Int) ∧ (0<b → ∃ q,c.Code[(b - 1).toNat]? =some q ∧ q.Op=16)) ∧ iX c.Code=(bgs c).length ∧ gZ c.Code=true:=by
 have hmem:∀ b:Int,b∈stA 0 true c.Code ↔ 0 ≤ b ∧ b<(c.Code.length:Int) ∧ (0<b → ∃ q,c.Code[(b - 1).toNat]? =some q ∧ q.Op=16):=fun b=>by
  rw [aDj];constructor
  ·rintro⟨i,h1,h2,h3⟩
   refine⟨by omega,by omega,fun hb=>?_⟩
   rcases h3 with⟨rfl,_⟩ | ⟨j,q,rfl,h4,h5⟩
   ·omega
   ·refine⟨q,?_,h5⟩;rw [h2,show((((0+(j+1):Nat):Int) - 1).toNat)=j by omega];exact h4
  ·rintro⟨h1,h2,h3⟩
   refine⟨b.toNat,by omega,by omega,?_⟩
   by_cases h0:b=0
   ·left;exact⟨by omega,rfl⟩
   ·obtain⟨q,g1,g2⟩:=h3 (by omega)
    right;exact⟨(b - 1).toNat,q,by omega,g1,g2⟩
 have hsn:(stA 0 true c.Code).Nodup:=(aAz c.Code 0 true).imp fun h=>by omega
 constructor
 ·rintro⟨_,h1,h2⟩
  have hp:(bgs c).Perm (stA 0 true c.Code):=by rw [← h1];exact(pZ _).symm
  have hl:=zZ c.Code 0 true hne h2;simp only [if_true,Nat.add_zero]at hl;exact⟨hp.nodup_iff.2 hsn,fun b hb=>(hmem b).1 (hp.mem_iff.1 hb),by rw [← hl,hp.length_eq],h2⟩
 ·rintro⟨h1,h2,h3,h4⟩
  have hl:=zZ c.Code 0 true hne h4;simp only [if_true,Nat.add_zero]at hl;have hp:(bgs c).Perm (stA 0 true c.Code):=qM h1 (fun b hb=>(hmem b).2 (h2 b hb)) (by omega)
  exact⟨hne,aEQ ((pZ _).trans hp) (aDP _) ((aAz _ _ _).imp fun h=>by omega),h4⟩
open Go.SX Go.SW Go.Dt
theorem aCq {d:Array Int} (hd:∀ i j,i ≤ j → j<d.size → d[i]! ≤ d[j]!):∀ m,m ≤ d.size → (Go.Lib.compactUpTo d m).Pairwise (fun a b=>a<b) ∧ (∀ a∈Go.Lib.compactUpTo d m,∃ j,j<m ∧ d[j]! =a) ∧ (∀ j,j<m → d[j]! ∈Go.Lib.compactUpTo d m)
 | 0,_=>⟨by simp [Go.Lib.compactUpTo],fun a h=>by simp [Go.Lib.compactUpTo]at h,fun j h=>by omega⟩
 | m+1,hm=>by
  obtain⟨h1,h2,h3⟩:=aCq hd m (by omega)
  rw [Go.Lib.compactUpTo_succ];by_cases hk:m=0 ∨ d[m]! ≠d[m - 1]!
  ·rw [if_pos (by simpa [Go.Lib.keeps] using hk)];refine⟨List.pairwise_append.2 ⟨h1,List.pairwise_singleton _ _,fun a ha b hb=>?_⟩,fun a ha=>?_,fun j hj=>?_⟩
   ·rw [List.mem_singleton.1 hb];obtain⟨j,hj,rfl⟩:=h2 a ha;have q1:=hd j (m - 1) (by omega) (by omega)
    have q2:=hd (m - 1) m (by omega) (by omega)
    rcases hk with hk | hk
    ·omega
    ·omega
   ·rcases List.mem_append.1 ha with q | q
    ·obtain⟨j,hj,e⟩:=h2 a q;exact⟨j,by omega,e⟩
    ·exact⟨m,by omega,(List.mem_singleton.1 q).symm⟩
   ·by_cases e:j=m
    ·subst e;exact List.mem_append_right _ (.head _)
    ·exact List.mem_append_left _ (h3 j (by omega))
  ·rw [if_neg (by simpa [Go.Lib.keeps] using hk),List.append_nil];have hk':m≠0 ∧ d[m]! =d[m - 1]! :=⟨fun q=>hk (.inl q),Classical.byContradiction fun q=>hk (.inr q)⟩
   refine⟨h1,fun a ha=>?_,fun j hj=>?_⟩
   ·obtain⟨j,hj,e⟩:=h2 a ha;exact⟨j,by omega,e⟩
   ·by_cases e:j=m
    ·subst e;rw [hk'.2];exact h3 _ (by omega)
    ·exact h3 j (by omega)
theorem aGA (l:List Int):(Go.Lib.compact (bS l)).Nodup ∧ ∀ i,i∈Go.Lib.compact (bS l) ↔ i∈l:=by
 have hs:=aDP l
 have hd:∀ i j,i ≤ j → j<(bS l).toArray.size → (bS l).toArray[i]! ≤ (bS l).toArray[j]! :=fun i j hij hj=>by
  have hj':j<(bS l).length:=by simpa using hj
  have hi':i<(bS l).length:=by omega
  rcases Nat.lt_or_ge i j with h | h
  ·have:=(List.pairwise_iff_getElem.1 hs) i j hi' hj' h;simpa [hi',hj'] using this
  ·have:i=j:=by omega
   subst this;exact Int.le_refl _
 obtain⟨h1,h2,h3⟩:=aCq hd (bS l).length (by simp)
 refine⟨h1.imp fun h=>by omega,fun i=>?_⟩
 have hm:i∈bS l ↔ i∈l:=(pZ l).mem_iff
 rw [← hm]
 constructor
 ·intro h;obtain⟨j,hj,rfl⟩:=h2 i h;simp [hj]
 ·intro h;obtain⟨j,hj,rfl⟩:=List.mem_iff_getElem.1 h;have:=h3 j hj;show(bS l)[j]∈Go.Lib.compactUpTo (bS l).toArray (bS l).length
  simpa [hj] using this
theorem aD2 (l:List Int):(Go.Lib.compact (bS l)).length=l.length ↔ l.Nodup:=by
 obtain⟨h1,h2⟩:=aGA l
 constructor
 ·intro h;exact(qM h1 (fun x hx=>(h2 x).1 hx) (by omega)).nodup_iff.1 h1
 ·intro h;rcases Nat.le_total (Go.Lib.compact (bS l)).length l.length with g | g
  ·exact(qM h (fun x hx=>(h2 x).2 hx) g).length_eq.symm
  ·exact(qM h1 (fun x hx=>(h2 x).1 hx) g).length_eq
theorem aCG {e:CodeIns} (he:e.Op=16) (rest:List CodeIns):∀ (pre:List CodeIns) (p:Nat) (fr:Bool),(∀ i∈pre,i.Op≠16) → stA p fr (pre++e :: rest)=(if fr=true then [(p:Int)] else [])++stA (p+pre.length+1) true rest
 | [],p,fr,_=>by simp [stA,he]
 | i :: pre,p,fr,h=>by
  have h1:=h i (.head _);have ih:=aCG he rest pre (p+1) false fun j hj=>h j (.tail _ hj)
  rw [List.cons_append,stA,decide_eq_false h1,ih];simp only [List.length_cons,Bool.false_eq_true,if_false,List.nil_append];rw [show p+1+pre.length+1=p+(pre.length+1)+1 by omega]
theorem aAV {e:CodeIns} (he:e.Op=16) (rest:List CodeIns):∀ (pre:List CodeIns),gZ (pre++e :: rest)=gZ rest
 | []=>by
  cases rest with
  | nil=>simp [gZ,he]
  | cons j l=>rfl
 | [i]=>by
  have:=aAV he rest [];rw [← this];rfl
 | i :: j :: pre=>by
  rw [← aAV he rest (j :: pre)];rfl
theorem aDJ:∀ {l:List CodeIns},l≠[] → (∀ i∈l,i.Op≠16) → gZ l=false
 | [],h,_=>absurd rfl h
 | [i],_,h=>decide_eq_false (h i (.head _))
 | i :: j :: l,_,h=>aDJ (l:=j :: l) (by simp) fun x hx=>h x (.tail _ hx)
theorem aBv:∀ {l:List CodeIns} {i:CodeIns},l[l.length - 1]? =some i → gZ l=decide (i.Op=16)
 | [],i,h=>by simp at h
 | [j],i,h=>by simp at h;subst h;rfl
 | j :: k :: l,i,h=>by
  have:=aBv (l:=k :: l) (i:=i) (by simpa using h)
  exact this
def mU (C:List CodeIns) (la:List Int) (m:Nat):Prop:=∀ i:Nat,i<m → ∃ q:Nat,la[i]? =some (q:Int) ∧ i ≤ q ∧ q<C.length ∧ (∃ e,C[q]? =some e ∧ e.Op=16) ∧ ∀ j:Nat,i ≤ j → j<q → ∀ e,C[j]? =some e → e.Op≠16
theorem bk2 {x:Code_checker} (hB:x.CodeProg.Code.length ≤ 2000000):∀ (k n:Nat),n ≤ x.CodeProg.Code.length → x.CodeProg.Code.length - n<k → ∃ q:Nat,jY x k (n:Int)=some (q:Int) ∧ n ≤ q ∧ q ≤ x.CodeProg.Code.length ∧ (∀ j:Nat,n ≤ j → j<q → ∀ e,x.CodeProg.Code[j]? =some e → e.Op≠16) ∧ (q<x.CodeProg.Code.length → ∃ e,x.CodeProg.Code[q]? =some e ∧ e.Op=16)
 | 0,_,_,hk=>by omega
 | k+1,n,hn,hk=>by
  by_cases h:n<x.CodeProg.Code.length
  ·have hi:=List.getElem?_eq_getElem h;by_cases ho:x.CodeProg.Code[n].Op≠16
   ·obtain⟨q,h1,h2,h3,h4,h5⟩:=bk2 hB k (n+1) (by omega) (by omega)
    refine⟨q,?_,by omega,h3,fun j hj hq e he=>?_,h5⟩
    ·rw [jY,if_pos (by omega),eA hi,bsm,if_pos ho,aI (by omega),bsm];exact h1
    ·by_cases g:j=n
     ·subst g;rw [hi]at he;cases he;exact ho
     ·exact h4 j (by omega) hq e he
   ·refine⟨n,by rw [jY,if_pos (by omega),eA hi,bsm,if_neg ho],by omega,by omega,fun j _ _=>by omega,fun _=>⟨_,hi,by omega⟩⟩
  ·exact⟨n,by rw [jY,if_neg (by omega)],by omega,hn,fun j _ _=>by omega,fun g=>absurd g h⟩
theorem bk3 {q:Nat} (hq:q ≤ 2000000):∀ (k b:Nat) (la:List Int),b ≤ q+1 → q+1 - b<k → q<la.length → ∃ la',kW (q:Int) k (b:Int) la=some la' ∧ la'.length=la.length ∧ (∀ i:Nat,b ≤ i → i ≤ q → la'[i]? =some (q:Int)) ∧ ∀ i:Nat,i<b → la'[i]? =la[i]?
 | 0,_,_,_,hk,_=>by omega
 | k+1,b,la,hb,hk,hl=>by
  by_cases h:b ≤ q
  ·obtain⟨la',h1,h2,h3,h4⟩:=bk3 hq k (b+1) (la.set b (q:Int)) (by omega) (by omega) (by simpa using hl)
   refine⟨la',?_,by rw [h2,List.length_set],fun i hi hi2=>?_,fun i hi=>?_⟩
   ·rw [kW,if_pos (by omega),eA (List.getElem?_eq_getElem (by omega:b<la.length)),bsm,aI (by omega),bsm];exact h1
   ·by_cases g:i=b
    ·subst g;rw [h4 i (by omega),List.getElem?_set_self (by omega)]
    ·exact h3 i (by omega) hi2
   ·rw [h4 i (by omega)];rw [List.getElem?_set_ne (by omega)]
  ·exact⟨la,by rw [kW,if_neg (by omega)],rfl,fun i _ _=>by omega,fun _ _=>rfl⟩
theorem drop_run {C:List CodeIns} {p q:Nat} {e:CodeIns} (hpq:p ≤ q) (he:C[q]? =some e):∃ pre,C.drop p=pre++e :: C.drop (q+1) ∧ pre.length=q - p ∧ ∀ i∈pre,∃ j,p ≤ j ∧ j<q ∧ C[j]? =some i:=by
 obtain⟨hq,rfl⟩:=List.getElem?_eq_some_iff.1 he
 refine⟨(C.drop p).take (q - p),?_,by simp;omega,fun i hi=>?_⟩
 ·have h1:C.drop q=C[q] :: C.drop (q+1):=List.drop_eq_getElem_cons hq;rw [← h1,show C.drop q=(C.drop p).drop (q - p) by rw [List.drop_drop];congr 1;omega,List.take_append_drop]
 ·obtain⟨j,hj,rfl⟩:=List.mem_iff_getElem.1 hi;have hj':j<q - p:=by simp at hj;omega
  refine⟨p+j,by omega,by omega,?_⟩
  rw [List.getElem_take,List.getElem_drop];exact List.getElem?_eq_getElem _
theorem aEi {l:List Int} (h:l.length ≤ 1000000000):tE l=some l:=by
 rw [tE,List.nil_append,dP h,bsm]
open Classical in
theorem bk1 {fuel:Nat} {x:Code_checker} (hf:4000000 ≤ fuel) (hB:x.CodeProg.Code.length ≤ 2000000) (suf:List Int):∀ (pre:List Int) (k p:Nat) (la:List Int),suf.length<k → pre.length+suf.length ≤ 3000000 → p ≤ x.CodeProg.Code.length → la.length=x.CodeProg.Code.length → mU x.CodeProg.Code la p →
 ∃ r,iW fuel x (pre++suf) k (p:Int) (pre.length:Int) la=some r ∧ (((suf=stA p true (x.CodeProg.Code.drop p) ∧ gZ (x.CodeProg.Code.drop p)=true) ∧ ∃ la',r= .inl ((x.CodeProg.Code.length:Int),la') ∧ la'.length=x.CodeProg.Code.length ∧ mU x.CodeProg.Code la' x.CodeProg.Code.length) ∨ (¬ (suf=stA p true (x.CodeProg.Code.drop p) ∧ gZ (x.CodeProg.Code.drop p)=true) ∧ (r= .inr (.inr W) ∨ ∃ (p':Nat) (la':List Int),r= .inl ((p':Int),la') ∧ p'≠x.CodeProg.Code.length))):=by
 induction suf with
 | nil=>
  intro pre k p la hk _ hp hl hla;obtain _ | k:=k
  ·omega
  refine⟨_,by rw [iW,if_neg (by simp)],?_⟩
  by_cases h:p=x.CodeProg.Code.length
  ·left
   refine⟨?_,la,by rw [h],hl,by rw [← h];exact hla⟩
   rw [h,List.drop_length];exact⟨rfl,rfl⟩
  ·right
   refine⟨fun g=>?_, .inr ⟨p,la,rfl,h⟩⟩
   have hlt:p<x.CodeProg.Code.length:=by omega
   rw [List.drop_eq_getElem_cons hlt]at g;have:=g.1;simp [stA]at this
 | cons b suf ih=>
  intro pre k p la hk hl0 hp hl hla;obtain _ | k:=k
  ·omega
  simp only [List.length_cons]at hk hl0;by_cases hbp:b=(p:Int)
  ·subst hbp;obtain⟨q,h1,h2,h3,h4,h5⟩:=bk2 (x:=x) hB fuel p hp (by omega)
   by_cases hq:q<x.CodeProg.Code.length
   ·obtain⟨e,he1,he2⟩:=h5 hq;obtain⟨la',g1,g2,g3,g4⟩:=bk3 (q:=q) (by omega) fuel p la (by omega) (by omega) (by omega)
    obtain⟨run,r1,r2,r3⟩:=drop_run h2 he1;have hrun:∀ i∈run,i.Op≠16:=fun i hi=>by obtain⟨j,j1,j2,j3⟩:=r3 i hi;exact h4 j j1 j2 i j3
    have hst:stA p true (x.CodeProg.Code.drop p)=(p:Int) :: stA (q+1) true (x.CodeProg.Code.drop (q+1)):=by
     rw [r1,aCG he2 _ run p true hrun,if_pos rfl,show p+run.length+1=q+1 by omega];rfl
    have hle:gZ (x.CodeProg.Code.drop p)=gZ (x.CodeProg.Code.drop (q+1)):=by rw [r1,aAV he2]
    have hla':mU x.CodeProg.Code la' (q+1):=fun i hi=>by
     by_cases hip:i<p
     ·obtain⟨q',a1,a2⟩:=hla i hip;exact⟨q',by rw [g4 i hip];exact a1,a2⟩
     ·exact⟨q,g3 i (by omega) (by omega),by omega,hq,⟨e,he1,he2⟩,fun j j1 j2=>h4 j (by omega) j2⟩
    obtain⟨r,i1,i2⟩:=ih (pre++[(p:Int)]) k (q+1) la' (by omega) (by simp;omega) (by omega) (by omega) hla'
    refine⟨r,?_,?_⟩
    ·rw [iW,if_pos (bU _ _ _),bP];refine bb rfl ?_;refine bb (z:= .inl ()) (by rw [decide_eq_true rfl];rfl) ?_
     refine bb h1 ?_;refine bb (z:= .inl ()) (by rw [decide_eq_true (by omega)];rfl) ?_
     refine bb g1 ?_;refine bb (aI (by omega)) ?_
     refine b1 rfl ?_;dsimp only
     rw [aI (by omega),bsm,eY pre suf,bR pre (p:Int)];exact i1
    ·rw [hst,hle];rcases i2 with⟨j1,j2⟩ | ⟨j1,j2⟩
     ·exact .inl ⟨⟨by rw [← j1.1],j1.2⟩,j2⟩
     ·exact .inr ⟨fun g=>j1 ⟨by simpa using g.1,g.2⟩,j2⟩
   ·refine⟨.inr (.inr W),?_, .inr ⟨fun g=>?_, .inl rfl⟩⟩
    ·rw [iW,if_pos (bU _ _ _),bP];refine bb rfl ?_;refine bb (z:= .inl ()) (by rw [decide_eq_true rfl];rfl) ?_
     refine bb h1 ?_;refine bb (z:= .inr W) (by rw [decide_eq_false (by omega)];rfl) ?_
     rfl
    ·have hne:x.CodeProg.Code.drop p≠[]:=fun g'=>by rw [g']at g;have:=g.1;simp [stA]at this
     rw [aDJ hne fun i hi=>by
      obtain⟨j,hj,rfl⟩:=List.mem_iff_getElem.1 hi;rw [List.getElem_drop];have hj':p+j<x.CodeProg.Code.length:=by simp at hj;omega
      exact h4 (p+j) (by omega) (by omega) _ (List.getElem?_eq_getElem hj')]at g
     exact absurd g.2 (by simp)
  ·refine⟨.inr (.inr W),?_, .inr ⟨fun g=>?_, .inl rfl⟩⟩
   ·rw [iW,if_pos (bU _ _ _),bP];refine bb rfl ?_;refine bb (z:= .inr W) (by rw [decide_eq_false hbp];rfl) ?_
    rfl
   ·cases hd:x.CodeProg.Code.drop p with
    | nil=>rw [hd]at g;have:=g.1;simp [stA]at this
    | cons i l=>rw [hd]at g;have:=g.1;simp [stA]at this;exact hbp this.1
open Classical in
theorem aFW {fuel:Nat} {x:Code_checker} (hf:4000000 ≤ fuel) (hs:SmB x.CodeProg) (hne:x.CodeProg.Code≠[]):
 ∃ la,kN fuel x=some (if okB x.CodeProg then .inl ⟨x.CodeProg,bS (bgs x.CodeProg),la,x.levels,x.todo⟩ else .inr W) ∧ (okB x.CodeProg → la.length=x.CodeProg.Code.length ∧ mU x.CodeProg.Code la x.CodeProg.Code.length):=by
 have hl:=hs.len
 have hsl:=(pZ (bgs x.CodeProg)).length_eq
 have e1:=aGc hf hs
 have hcode:=hs.code
 obtain⟨r,h1,h2⟩:=bk1 (x:=x) hf hcode (bS (bgs x.CodeProg)) [] fuel 0 (List.replicate x.CodeProg.Code.length 0) (by omega) (by simp;omega) (by omega) (by simp) (fun i hi=>by omega)
 simp only [List.nil_append,List.length_nil,Int.natCast_zero,List.drop_zero]at h1 h2
 have hdo:∀ (P:Prop),kN fuel x=some (.inr W) → ¬ okB x.CodeProg → ∃ la,kN fuel x=some (if okB x.CodeProg then .inl ⟨x.CodeProg,bS (bgs x.CodeProg),la,x.levels,x.todo⟩ else .inr W) ∧ (okB x.CodeProg → la.length=x.CodeProg.Code.length ∧ mU x.CodeProg.Code la x.CodeProg.Code.length):=fun _ g1 g2=>⟨[],by rw [g1,if_neg g2],fun g=>absurd g g2⟩
 by_cases hn:(bgs x.CodeProg).Nodup
 ·have hc:=(aD2 (bgs x.CodeProg)).2 hn;have hpre:kN fuel x=(some r).bind (fun o=>match o with | Sum.inr r=>some r | Sum.inl (x1,x2)=>(bJ (decide (x1=(x.CodeProg.Code.length:Int)))).bind fun y12=>match y12 with | Sum.inr pv4=>some (Sum.inr pv4) | Sum.inl y12=>some (Sum.inl (⟨(⟨x.CodeProg.Free,x.CodeProg.Defs,x.CodeProg.Code,x.CodeProg.Main⟩:CodeProg),bS (bgs x.CodeProg),x2,x.levels,x.todo⟩:Code_checker))):=by
   rw [kN];refine b1 e1 ?_;refine b1 (z:=bS (bgs x.CodeProg)) rfl ?_;refine b1 (aEi (by omega)) ?_
   refine b1 (z:=Go.Lib.compact (bS (bgs x.CodeProg))) rfl ?_;refine b1 (z:= .inl ()) (by rw [decide_eq_true (by omega)];rfl) ?_
   refine b1 (qH (by omega)) ?_
   rw [h1];rcases r with⟨a,b⟩ | r <;> rfl
  rcases h2 with⟨k1,la,k2,k3,k4⟩ | ⟨k1,k2⟩
  ·have hok:okB x.CodeProg:=⟨hne,k1⟩;refine⟨la,?_,fun _=>⟨k3,k4⟩⟩
   rw [hpre,k2,bsm,if_pos hok];refine b1 (z:= .inl ()) (by rw [decide_eq_true rfl];rfl) ?_
   rfl
  ·have hok:¬ okB x.CodeProg:=fun g=>k1 g.2
   refine hdo True ?_ hok;rw [hpre];rcases k2 with rfl | ⟨p',la',rfl,k3⟩
   ·rfl
   ·rw [bsm];refine b1 (z:= .inr W) (by rw [decide_eq_false (by omega)];rfl) ?_
    rfl
 ·have hok:¬ okB x.CodeProg:=fun g=>hn ((uS hne).1 g).1
  refine hdo True ?_ hok;rw [kN];refine b1 e1 ?_;refine b1 (z:=bS (bgs x.CodeProg)) rfl ?_;refine b1 (aEi (by omega)) ?_
  refine b1 (z:=Go.Lib.compact (bS (bgs x.CodeProg))) rfl ?_;refine b1 (z:= .inr W) (by rw [decide_eq_false fun g=>hn ((aD2 _).1 (by omega))];rfl) ?_
  rfl
def atB (C:List CodeIns) (b:Int):Prop:=0 ≤ b ∧ b<(C.length:Int) ∧ (0<b → ∃ q,C[(b - 1).toNat]? =some q ∧ q.Op=16)
open Classical in
theorem rk1 {c:CodeProg} (hB:c.Code.length ≤ 2000000) (suf:List Int):∀ (pre:List Int) (k:Nat) (u:List Bool),suf.length<k → pre.length+suf.length ≤ 3000000 → u.length=c.Code.length → (∀ i:Nat,u[i]? =some true ↔ (i:Int)∈pre ∧ i<c.Code.length) →
 pL c (pre++suf) k u (pre.length:Int)=some (if (∀ b∈suf,atB c.Code b ∧ b ∉ pre) ∧ suf.Nodup then .inl () else .inr false):=by
 induction suf with
 | nil=>
  intro pre k u hk _ _ _;obtain _ | k:=k
  ·omega
  rw [pL,if_neg (by simp),if_pos ⟨fun b h=>(by cases h), .nil⟩]
 | cons b suf ih=>
  intro pre k u hk hl hu hm;obtain _ | k:=k
  ·omega
  simp only [List.length_cons]at hk hl;rw [pL,if_pos (bU _ _ _),bP];refine b1 rfl ?_;have hbad:∀ {r:(Unit) ⊕ (Bool)},r= .inr false → ¬ (atB c.Code b ∧ b ∉ pre) → some r=some (if (∀ b'∈b :: suf,atB c.Code b' ∧ b' ∉ pre) ∧ (b :: suf).Nodup then .inl () else .inr false):=fun h1 h2=>by rw [if_neg (fun g=>h2 (g.1 b (.head _))),h1]
  by_cases g1:b<0
  ·rw [if_pos g1];exact hbad rfl (fun g=>by have:=g.1.1;omega)
  ·rw [if_neg g1];by_cases g2:(c.Code.length:Int) ≤ b
   ·rw [if_pos g2];exact hbad rfl (fun g=>by have:=g.1.2.1;omega)
   ·rw [if_neg g2];have hlt:b.toNat<u.length:=by omega
    have hix:idx u b=some u[b.toNat]:=dU (by omega) (by omega)
    have hbb:((b.toNat:Nat):Int)=b:=by omega
    rw [hix];refine bb rfl ?_;cases hub:u[b.toNat]with
    | true=>
     have:=(hm b.toNat).1 (by rw [List.getElem?_eq_getElem hlt,hub])
     rw [hbb]at this;rw [cond_true];exact hbad rfl (fun g=>g.2 this.1)
    | false=>
     have hnp:b ∉ pre:=fun g=>by
      have:=(hm b.toNat).2 ⟨by rw [hbb];exact g,by omega⟩
      rw [List.getElem?_eq_getElem hlt,hub]at this;cases this
     rw [cond_false];have hgo:(atB c.Code b) → pL c (pre++b :: suf) k (u.set b.toNat true) (pre.length+1:Int)=some (if (∀ b'∈b :: suf,atB c.Code b' ∧ b' ∉ pre) ∧ (b :: suf).Nodup then .inl () else .inr false):=fun hat=>by
      have:=ih (pre++[b]) k (u.set b.toNat true) (by omega) (by simp;omega) (by simpa using hu) (fun i=>by
       by_cases e:i=b.toNat
       ·subst e;simp [hlt,hbb];omega
       ·rw [List.getElem?_set_ne (Ne.symm e),hm i];have:(i:Int)≠b:=by omega
        simp [this])
      rw [eY pre suf b,bR pre b,this];have e:((∀ b'∈suf,atB c.Code b' ∧ b' ∉ pre++[b]) ∧ suf.Nodup) ↔ ((∀ b'∈b :: suf,atB c.Code b' ∧ b' ∉ pre) ∧ (b :: suf).Nodup):=by
       constructor
       ·rintro⟨a1,a2⟩
        refine⟨fun b' hb'=>?_,List.nodup_cons.2 ⟨fun g=>(a1 b g).2 (by simp),a2⟩⟩
        cases hb' with
        | head=>exact⟨hat,hnp⟩
        | tail _ hb'=>exact⟨(a1 b' hb').1,fun g=>(a1 b' hb').2 (List.mem_append_left _ g)⟩
       ·rintro⟨a1,a2⟩
        refine⟨fun b' hb'=>⟨(a1 b' (.tail _ hb')).1,fun g=>?_⟩,(List.nodup_cons.1 a2).2⟩
        rcases List.mem_append.1 g with g | g
        ·exact(a1 b' (.tail _ hb')).2 g
        ·rw [List.mem_singleton.1 g]at hb';exact(List.nodup_cons.1 a2).1 hb'
      by_cases h:(∀ b'∈suf,atB c.Code b' ∧ b' ∉ pre++[b]) ∧ suf.Nodup
      ·rw [if_pos h,if_pos (e.1 h)]
      ·rw [if_neg h,if_neg (fun g=>h (e.2 g))]
     by_cases g3:0<b
     ·have hlt2:(b - 1).toNat<c.Code.length:=by omega
      rw [if_pos g3,aI (by omega)];refine bb rfl ?_;rw [dU (by omega) (by omega)];refine bb rfl ?_;by_cases g4:c.Code[(b - 1).toNat].Op≠16
      ·rw [if_pos g4];exact hbad rfl (fun g=>by obtain⟨q,q1,q2⟩:=g.1.2.2 g3;rw [List.getElem?_eq_getElem hlt2]at q1;cases q1;exact g4 q2)
      ·rw [if_neg g4];refine b1 rfl ?_;dsimp only
       refine b1 rfl ?_;refine b1 (aI (by omega)) ?_
       exact hgo ⟨by omega,by omega,fun _=>⟨_,List.getElem?_eq_getElem hlt2,by omega⟩⟩
     ·rw [if_neg g3];refine b1 rfl ?_;dsimp only
      refine b1 rfl ?_;refine b1 (aI (by omega)) ?_
      exact hgo ⟨by omega,by omega,fun g=>absurd g g3⟩
theorem aCQ (e:CodeIns) (l:List CodeIns):iX (e :: l)=(if e.Op=16 then 1 else 0)+iX l:=by
 unfold iX;rw [List.filter_cons]
 by_cases g:e.Op=16
 ·rw [if_pos (by simpa using g),if_pos g];simp;omega
 ·rw [if_neg (by simpa using g),if_neg g];simp
theorem rk2 {c:CodeProg} (suf:List CodeIns):∀ (pre:List CodeIns) (k n:Nat),c.Code=pre++suf → suf.length<k → pre.length+suf.length ≤ 3000000 → n ≤ pre.length → tU c k (n:Int) (pre.length:Int)=some ((n+iX suf:Nat):Int):=by
 induction suf with
 | nil=>
  intro pre k n h hk _ _;obtain _ | k:=k
  ·omega
  rw [tU,h,if_neg (by simp)];rfl
 | cons e suf ih=>
  intro pre k n h hk hB hn;obtain _ | k:=k
  ·omega
  simp only [List.length_cons]at hk hB;rw [tU,h,if_pos (bU _ _ _),bP];refine bb rfl ?_;by_cases g:e.Op=16
  ·rw [if_pos g,aI (by omega)];refine bb rfl ?_;refine b1 rfl ?_;refine b1 (aI (by omega)) ?_
   have:=ih (pre++[e]) k (n+1) (by rw [h];simp) (by omega) (by simp;omega) (by simp;omega)
   rw [bR pre e,show(n:Int)+1=((n+1:Nat):Int) by omega,this,aCQ,if_pos g,Nat.add_assoc]
  ·rw [if_neg g];refine b1 rfl ?_;refine b1 (aI (by omega)) ?_
   have:=ih (pre++[e]) k n (by rw [h];simp) (by omega) (by simp;omega) (by simp;omega)
   rw [bR pre e,this,aCQ,if_neg g,Nat.zero_add]
open Classical in
theorem aGo {fuel:Nat} {c:CodeProg} (hf:4000000 ≤ fuel) (hs:SmB c) (hne:c.Code≠[]):aAJ fuel c=some (decide (okB c)):=by
 have hl:=hs.len
 have hcode:=hs.code
 have hpos:0<c.Code.length:=List.length_pos_iff.2 hne
 have e1:=aDq hf hs
 have e2:=rk1 (c:=c) hcode (bgs c) [] fuel (List.replicate c.Code.length false) (by omega) (by simp;omega) (by simp) (fun i=>by
  constructor
  ·intro h;simp [List.getElem?_replicate]at h
  ·rintro⟨h,_⟩;cases h)
 have e3:=rk2 (c:=c) c.Code [] fuel 0 rfl (by omega) (by simp;omega) (by omega)
 simp only [List.nil_append,List.length_nil,Int.natCast_zero,Nat.zero_add]at e2 e3
 have hiff:=uS hne
 rw [aAJ]
 refine b1 e1 ?_
 refine b1 (qH (by omega)) ?_
 by_cases h:(∀ b∈bgs c,atB c.Code b ∧ b ∉ ([]:List Int)) ∧ (bgs c).Nodup
 ·rw [if_pos h]at e2;refine b1 e2 ?_;dsimp only
  refine b1 e3 ?_;by_cases g:iX c.Code=(bgs c).length
  ·have hlast:c.Code[c.Code.length - 1]? =some (c.Code[c.Code.length - 1]'(by omega)):=List.getElem?_eq_getElem _
   have hix:idx c.Code ((c.Code.length:Int) - 1)=some (c.Code[c.Code.length - 1]'(by omega)):=by
    have:=eA hlast;rw [← this];congr 1;omega
   rw [if_pos (by omega),aI (by omega)];refine bb rfl ?_;rw [hix];refine bb rfl ?_;refine b1 rfl ?_;congr 1
   rw [decide_eq_decide,hiff];have hle:=aBv hlast;constructor
   ·intro q;exact⟨h.2,fun b hb=>(h.1 b hb).1,g,by rw [hle,decide_eq_true q]⟩
   ·intro q;have:=q.2.2.2;rw [hle]at this;exact of_decide_eq_true this
  ·rw [if_neg (by omega)];refine b1 rfl ?_;rw [decide_eq_false fun q=>g (hiff.1 q).2.2.1]
 ·rw [if_neg h]at e2;refine b1 e2 ?_;dsimp only
  rw [decide_eq_false fun q=>h ⟨fun b hb=>⟨(hiff.1 q).2.1 b hb,by simp⟩,(hiff.1 q).1⟩]
open Go.SX Go.SW Go.Dt
abbrev FT:=Int → Option CodeLevel
abbrev SC:=Int → CodeLevel → Option (List (Int × CodeLevel))
def fup (f:FT) (m:Int) (l:CodeLevel):FT:=fun x=>if x=m then some l else f x
open Classical in
noncomputable def psh:FT → List Int → List (Int × CodeLevel) → Option (FT × List Int)
 | f,td,[]=>some (f,td)
 | f,td,p :: s=>match f p.1 with
  | some l'=>if l'=p.2 then psh f td s else none
  | none=>psh (fup f p.1 p.2) (td++[p.1]) s
def cnt (f:FT):Nat → Nat
 | 0=>0
 | n+1=>(if (f (n:Int)).isNone=true then 1 else 0)+cnt f n
theorem oP (f:FT):∀ n,cnt f n ≤ n
 | 0=>Nat.le_refl _
 | n+1=>by have:=oP f n;simp only [cnt];split <;> omega
theorem aDn {f:FT} {m:Int} {l:CodeLevel}:∀ n:Nat,(n:Int) ≤ m → cnt (fup f m l) n=cnt f n
 | 0,_=>rfl
 | n+1,h=>by
  rw [cnt,cnt,aDn n (by omega)];have:fup f m l (n:Int)=f (n:Int):=if_neg (by omega)
  rw [this]
theorem cnt_up {f:FT} {m:Int} {l:CodeLevel} (hm:0 ≤ m) (hf:f m=none):∀ n:Nat,m<(n:Int) → cnt (fup f m l) n+1=cnt f n
 | 0,h=>by omega
 | n+1,h=>by
  rw [cnt,cnt];by_cases g:m=(n:Int)
  ·have h1:fup f m l (n:Int)=some l:=if_pos g.symm;rw [h1,aDn n (by omega),← g,hf];simp;omega
  ·have h1:fup f m l (n:Int)=f (n:Int):=if_neg (Ne.symm g);have:=cnt_up (l:=l) hm hf n (by omega)
   rw [h1];omega
theorem zK {n:Nat}:∀ (s:List (Int × CodeLevel)) (f:FT) (td:List Int) (f':FT) (td':List Int),psh f td s=some (f',td') → (∀ p∈s,0 ≤ p.1 ∧ p.1<(n:Int)) →
 (∀ m l,f m=some l → f' m=some l) ∧ (∀ p∈s,f' p.1=some p.2) ∧ (∀ m l,f' m=some l → f m=some l ∨ ((m,l)∈s ∧ m∈td')) ∧ (∀ m∈td,m∈td') ∧ (∀ m∈td',m∈td ∨ ∃ p∈s,p.1=m) ∧ cnt f' n+td'.length=cnt f n+td.length
 | [],f,td,f',td',h,_=>by
  simp only [psh,Option.some.injEq,Prod.mk.injEq]at h;obtain⟨rfl,rfl⟩:=h;exact⟨fun _ _ h=>h,fun p hp=>(by cases hp),fun _ _ h=> .inl h,fun _ h=>h,fun _ h=> .inl h,rfl⟩
 | p :: s,f,td,f',td',h,hr=>by
  have hr':∀ q∈s,0 ≤ q.1 ∧ q.1<(n:Int):=fun q hq=>hr q (.tail _ hq)
  have hp:=hr p (.head _);cases hf:f p.1 with
  | some l'=>
   simp only [psh,hf]at h;by_cases e:l'=p.2
   ·rw [if_pos e]at h;obtain⟨a1,a2,a3,a4,a5,a6⟩:=zK s f td f' td' h hr';refine⟨a1,fun q hq=>?_,fun m l hm=>?_,a4,fun m hm=>?_,a6⟩
    ·cases hq with
     | head=>exact a1 _ _ (by rw [hf,e])
     | tail _ hq=>exact a2 q hq
    ·rcases a3 m l hm with g | ⟨g1,g2⟩
     ·exact .inl g
     ·exact .inr ⟨.tail _ g1,g2⟩
    ·rcases a5 m hm with g | ⟨q,g1,g2⟩
     ·exact .inl g
     ·exact .inr ⟨q, .tail _ g1,g2⟩
   ·rw [if_neg e]at h;cases h
  | none=>
   simp only [psh,hf]at h;obtain⟨a1,a2,a3,a4,a5,a6⟩:=zK s _ _ f' td' h hr';have hpn:f' p.1=some p.2:=a1 _ _ (if_pos rfl);have hc:=cnt_up (l:=p.2) hp.1 hf n hp.2;refine⟨fun m l hm=>?_,fun q hq=>?_,fun m l hm=>?_,fun m hm=>a4 m (List.mem_append_left _ hm),fun m hm=>?_,?_⟩
   ·refine a1 m l ?_;have:m≠p.1:=fun e=>by rw [e,hf]at hm;cases hm
    exact(if_neg this).trans hm
   ·cases hq with
    | head=>exact hpn
    | tail _ hq=>exact a2 q hq
   ·rcases a3 m l hm with g | ⟨g1,g2⟩
    ·by_cases e:m=p.1
     ·subst e;rw [hpn]at hm;cases hm
      exact .inr ⟨.head _,a4 _ (by simp)⟩
     ·exact .inl ((if_neg e).symm.trans g)
    ·exact .inr ⟨.tail _ g1,g2⟩
   ·rcases a5 m hm with g | ⟨q,g1,g2⟩
    ·rcases List.mem_append.1 g with g | g
     ·exact .inl g
     ·exact .inr ⟨p, .head _,(List.mem_singleton.1 g).symm⟩
    ·exact .inr ⟨q, .tail _ g1,g2⟩
   ·rw [a6,List.length_append,List.length_singleton];omega
theorem zR:∀ (s:List (Int × CodeLevel)) (f:FT) (td:List Int),psh f td s=none → ∃ p∈s,∃ l',l'≠p.2 ∧ (f p.1=some l' ∨ (p.1,l')∈s)
 | [],f,td,h=>by simp [psh]at h
 | p :: s,f,td,h=>by
  cases hf:f p.1 with
  | some l'=>
   simp only [psh,hf]at h;by_cases e:l'=p.2
   ·rw [if_pos e]at h;obtain⟨q,q1,l2,q2,q3⟩:=zR s f td h;exact⟨q, .tail _ q1,l2,q2,q3.imp id fun g=> .tail _ g⟩
   ·exact⟨p, .head _,l',e, .inl hf⟩
  | none=>
   simp only [psh,hf]at h;obtain⟨q,q1,l2,q2,q3⟩:=zR s _ _ h;refine⟨q, .tail _ q1,l2,q2,?_⟩;rcases q3 with g | g
   ·by_cases e:q.1=p.1
    ·have:(fup f p.1 p.2) q.1=some p.2:=if_pos e;rw [this]at g;cases g
     right;rw [e];exact .head _
    ·left;exact(if_neg e).symm.trans g
   ·right;exact .tail _ g
inductive R (sc:SC) (a:Int) (l0:CodeLevel):Int → CodeLevel → Prop
 | base:R sc a l0 a l0
 | step {n:Int} {l:CodeLevel} {s:List (Int × CodeLevel)} {p:Int × CodeLevel}:R sc a l0 n l → sc n l=some s → p∈s → R sc a l0 p.1 p.2
def Bad (sc:SC) (a:Int) (l0:CodeLevel):Prop:=∃ n l,R sc a l0 n l ∧ (sc n l=none ∨ ∃ l',R sc a l0 n l' ∧ l'≠l)
def Sane (sc:SC) (n:Nat):Prop:=∀ m l s,0 ≤ m → m<(n:Int) → 0 ≤ l.Stack → 0 ≤ l.Slots → sc m l=some s → ∀ p∈s,(0 ≤ p.1 ∧ p.1<(n:Int)) ∧ 0 ≤ p.2.Stack ∧ p.2.Stack ≤ l.Stack+1000 ∧ 0 ≤ p.2.Slots ∧ p.2.Slots ≤ l.Slots+1000
structure LvI (sc:SC) (n:Nat) (a:Int) (l0:CodeLevel) (f:FT) (td:List Int) (B:Int):Prop where
 has:∀ m∈td,∃ l,f m=some l
 r:∀ m l,f m=some l → R sc a l0 m l ∧ (0 ≤ m ∧ m<(n:Int)) ∧ (0 ≤ l.Stack ∧ l.Stack ≤ B) ∧ (0 ≤ l.Slots ∧ l.Slots ≤ B)
 c:∀ m l,f m=some l → m ∉ td → ∃ s,sc m l=some s ∧ ∀ p∈s,f p.1=some p.2
 d:f a=some l0
theorem LvI.step {sc:SC} {n:Nat} {a m:Int} {l0 l:CodeLevel} {f f':FT} {td td':List Int} {B:Int} {s s':List (Int × CodeLevel)} (hs:Sane sc n) (h:LvI sc n a l0 f (td++[m]) B) (hm:f m=some l) (hsc:sc m l=some s) (hss:∀ p,p∈s' ↔ p∈s) (hp:psh f td s'=some (f',td')):
 LvI sc n a l0 f' td' (B+1000) ∧ cnt f' n+td'.length=cnt f n+td.length:=by
 obtain⟨r1,r2,r3,r4⟩:=h.r m l hm
 have hr:∀ p∈s',0 ≤ p.1 ∧ p.1<(n:Int):=fun p hp=>(hs m l s r2.1 r2.2 r3.1 r4.1 hsc p ((hss p).1 hp)).1
 obtain⟨a1,a2,a3,a4,a5,a6⟩:=zK (n:=n) s' f td f' td' hp hr
 refine⟨⟨fun x hx=>?_,fun x y hx=>?_,fun x y hx hn=>?_,a1 _ _ h.d⟩,a6⟩
 ·rcases a5 x hx with g | ⟨p,g1,g2⟩
  ·obtain⟨y,hy⟩:=h.has x (List.mem_append_left _ g);exact⟨y,a1 _ _ hy⟩
  ·exact⟨p.2,by rw [← g2];exact a2 p g1⟩
 ·rcases a3 x y hx with g | ⟨g1,g2⟩
  ·obtain⟨b1,b2,b3,b4⟩:=h.r x y g;exact⟨b1,b2,⟨b3.1,by omega⟩,⟨b4.1,by omega⟩⟩
  ·have g3:=(hss _).1 g1;obtain⟨c1,c2,c3,c4,c5⟩:=hs m l s r2.1 r2.2 r3.1 r4.1 hsc _ g3;dsimp only at c2 c3 c4 c5
   exact⟨R.step (p:=(x,y)) r1 hsc g3,c1,⟨c2,by omega⟩,⟨c4,by omega⟩⟩
 ·rcases a3 x y hx with g | ⟨g1,g2⟩
  ·by_cases e:x=m
   ·subst e;rw [hm]at g;cases g
    exact⟨s,hsc,fun p hp=>a2 p ((hss p).2 hp)⟩
   ·obtain⟨t,t1,t2⟩:=h.c x y g (fun q=>by
     rcases List.mem_append.1 q with q | q
     ·exact hn (a4 x q)
     ·exact e (List.mem_singleton.1 q))
    exact⟨t,t1,fun p hp=>a1 _ _ (t2 p hp)⟩
  ·exact absurd g2 hn
theorem LvI.bad {sc:SC} {n:Nat} {a m:Int} {l0 l:CodeLevel} {f:FT} {td td0:List Int} {B:Int} {s s':List (Int × CodeLevel)} (h:LvI sc n a l0 f td0 B) (hm:f m=some l) (hsc:sc m l=some s) (hss:∀ p,p∈s' ↔ p∈s) (hp:psh f td s'=none):Bad sc a l0:=by
 obtain⟨p,p1,l',p2,p3⟩:=zR s' f td hp
 have r1:=(h.r m l hm).1
 refine⟨p.1,p.2,R.step r1 hsc ((hss p).1 p1), .inr ⟨l',?_,p2⟩⟩
 rcases p3 with g | g
 ·exact(h.r _ _ g).1
 ·exact R.step (p:=(p.1,l')) r1 hsc ((hss _).1 g)
theorem LvI.closed {sc:SC} {n:Nat} {a:Int} {l0:CodeLevel} {f:FT} {B:Int} (h:LvI sc n a l0 f [] B):∀ m l,R sc a l0 m l ↔ f m=some l:=fun m l=>by
 constructor
 ·intro hr;induction hr with
  | base=>exact h.d
  | step _ h2 h3 ih=>
   obtain⟨s,s1,s2⟩:=h.c _ _ ih (by simp)
   rw [h2]at s1;cases s1
   exact s2 _ h3
 ·intro hf;exact(h.r m l hf).1
theorem LvI.good {sc:SC} {n:Nat} {a:Int} {l0:CodeLevel} {f:FT} {B:Int} (h:LvI sc n a l0 f [] B):¬ Bad sc a l0:=by
 rintro⟨m,l,h1,h2⟩
 have hf:=(h.closed m l).1 h1
 rcases h2 with g | ⟨l',g1,g2⟩
 ·obtain⟨s,s1,_⟩:=h.c m l hf (by simp)
  rw [g]at s1;cases s1
 ·rw [(h.closed m l').1 g1]at hf;cases hf;exact g2 rfl
def eW (ch:List ScopeChan):List Int → Int
 | []=>0
 | j :: l=>(match ch[j.toNat]? with | some c=>c.Many | none=>0)+eW ch l
def gQ (d:ScopeDef) (k:Int):List (Int × CodeLevel):=d.Spots.map (fun s=>(s.Node,(⟨0,k⟩:CodeLevel)))++d.Rules.map (fun r=>(r.Node,(⟨0,k+eW d.Chans r.Joins⟩:CodeLevel)))
open Classical in
noncomputable def scI (c:CodeProg) (n:Nat) (i:CodeIns) (l:CodeLevel):Option (List (Int × CodeLevel)):=
 if i.Op=1 then some [((n:Int)+1,⟨l.Stack+1,l.Slots⟩)]
 else if i.Op=2 then(if i.A<l.Slots then some [((n:Int)+1,⟨l.Stack+1,l.Slots⟩)] else none)
 else if 3 ≤ i.Op ∧ i.Op ≤ 7 then(if 2 ≤ l.Stack then some [((n:Int)+1,⟨l.Stack - 1,l.Slots⟩)] else none)
 else if i.Op=8 then(if i.A<l.Slots ∧ i.B ≤ l.Stack then some [((n:Int)+1,⟨l.Stack - i.B,l.Slots⟩)] else none)
 else if i.Op=9 then(if 1 ≤ l.Stack ∧ dR c.Code n i then some [(i.A,⟨l.Stack - 1,l.Slots⟩),((n:Int)+1,⟨l.Stack - 1,l.Slots⟩)] else none)
 else if i.Op=10 then(if dR c.Code n i then some [(i.A,l)] else none)
 else if i.Op=11 then(if l.Stack=0 then match c.Defs[i.A.toNat]? with
  | none=>none
  | some d=>some (gQ d (l.Slots+(d.Chans.length+d.Spots.length:Nat))++[((n:Int)+1,⟨l.Stack,l.Slots+(d.Chans.length+d.Spots.length:Nat)⟩)]) else none)
 else if i.Op=12 then(if i.A ≤ l.Slots then some [((n:Int)+1,⟨l.Stack,i.A⟩)] else none)
 else if i.Op=13 ∨ i.Op=15 then(if i.A<l.Slots ∧ l.Stack=0 then some [(i.B,⟨0,l.Slots⟩),((n:Int)+1,l)] else none)
 else if i.Op=14 then(if l.Stack=0 then some [((n:Int)+1,l)] else none)
 else (if l.Stack=0 then some [] else none)
noncomputable def scP (c:CodeProg):SC:=fun n l=>match c.Code[n.toNat]? with
 | none=>none
 | some i=>scI c n.toNat i l
structure Pre (c:CodeProg):Prop where
 len:c.Code.length ≤ 400
 defs:c.Defs.length ≤ 12
 okD:∀ d∈c.Defs,okD d ∧ inD c.Code.length d
 okI:∀ (n:Nat) i,c.Code[n]? =some i → okI c.Defs.length c.Code.length n i ∧ inI c.Code.length i
 end_:∀ i,c.Code[c.Code.length - 1]? =some i → i.Op=16
theorem aAY {ch:List ScopeChan} {a:Int} {n:Nat} (hc:∀ c∈ch,fD n c):∀ {l pre:List Int},eE ch a pre l → 0 ≤ eW ch l ∧ eW ch l ≤ 3*(l.length:Int)
 | [],_,_=>by simp [eW]
 | j :: l,pre,h=>by
  obtain⟨⟨_,_,⟨c,hc1,_⟩,_⟩,h2⟩:=h;have ih:=aAY hc h2;have:=hc c (List.mem_of_getElem? hc1);simp only [eW,hc1,List.length_cons];have h3:=this.2.2.1;have h4:=this.2.2.2
  omega
theorem defS_ok {c:CodeProg} (hp:Pre c) {d:ScopeDef} (hd:d∈c.Defs) {k:Int} (hk:0 ≤ k):∀ p∈gQ d k,(0 ≤ p.1 ∧ p.1<(c.Code.length:Int)) ∧ 0 ≤ p.2.Stack ∧ p.2.Stack ≤ 0 ∧ 0 ≤ p.2.Slots ∧ p.2.Slots ≤ k+9:=fun p h=>by
 obtain⟨h1,h2⟩:=hp.okD d hd
 rcases List.mem_append.1 h with h | h
 ·obtain⟨s,s1,rfl⟩:=List.mem_map.1 h;exact⟨h2.1 s s1,by simp,by simp,hk,by simp;omega⟩
 ·obtain⟨r,r1,rfl⟩:=List.mem_map.1 h;have hr:=h1.2.2.2.1 r r1;have hj:=aAY h1.2.1 hr.2;have:=hr.1;exact⟨h2.2 r r1,by simp,by simp,by simp;omega,by simp;omega⟩
theorem Pre.next {c:CodeProg} (hp:Pre c) {n:Nat} {i:CodeIns} (hi:c.Code[n]? =some i) (ho:i.Op≠16):n+1<c.Code.length:=by
 have hn:=(List.getElem?_eq_some_iff.1 hi).1
 rcases Nat.lt_or_ge (n+1) c.Code.length with h | h
 ·exact h
 ·have:n=c.Code.length - 1:=by omega
  rw [this]at hi;exact absurd (hp.end_ i hi) ho
theorem scI_ok {c:CodeProg} (hp:Pre c) {n:Nat} {i:CodeIns} {l:CodeLevel} {s:List (Int × CodeLevel)} (hi:c.Code[n]? =some i) (h1:0 ≤ l.Stack) (h2:0 ≤ l.Slots) (h:scI c n i l=some s):∀ p∈s,(0 ≤ p.1 ∧ p.1<(c.Code.length:Int)) ∧ 0 ≤ p.2.Stack ∧ p.2.Stack ≤ l.Stack+1000 ∧ 0 ≤ p.2.Slots ∧ p.2.Slots ≤ l.Slots+1000:=by
 obtain⟨hok,hin⟩:=hp.okI n i hi
 have hnx:=hp.next hi
 have hj:=hok.jump;have hs8:=hok.send;have h11:=hok.df;have hpos:=hok.pos
 unfold inI at hin
 rw [scI]at h
 by_cases o1:i.Op=1
 ·rw [if_pos o1]at h;cases h
  have:=hnx (by omega)
  intro p hp;rw [List.mem_singleton.1 hp];dsimp only;omega
 rw [if_neg o1]at h
 by_cases o2:i.Op=2
 ·rw [if_pos o2]at h;split at h <;> cases h
  have:=hnx (by omega)
  intro p hp;rw [List.mem_singleton.1 hp];dsimp only;omega
 rw [if_neg o2]at h
 by_cases o3:3 ≤ i.Op ∧ i.Op ≤ 7
 ·rw [if_pos o3]at h;split at h <;> cases h
  have:=hnx (by omega)
  intro p hp;rw [List.mem_singleton.1 hp];dsimp only;omega
 rw [if_neg o3]at h
 by_cases o8:i.Op=8
 ·rw [if_pos o8]at h;split at h <;> cases h
  have:=hnx (by omega)
  intro p hp;rw [List.mem_singleton.1 hp];dsimp only;omega
 rw [if_neg o8]at h
 by_cases o9:i.Op=9
 ·rw [if_pos o9]at h;split at h <;> cases h
  have:=hnx (by omega)
  intro p hp;cases hp with
  | head=>dsimp only;omega
  | tail _ hp=>rw [List.mem_singleton.1 hp];dsimp only;omega
 rw [if_neg o9]at h
 by_cases o10:i.Op=10
 ·rw [if_pos o10]at h;split at h <;> cases h
  intro p hp;rw [List.mem_singleton.1 hp];dsimp only;omega
 rw [if_neg o10]at h
 by_cases o11:i.Op=11
 ·rw [if_pos o11]at h;split at h
  ·split at h
   ·cases h
   ·rename_i d hd;have hdm:=List.mem_of_getElem? hd;have hdo:=(hp.okD d hdm).1.1;cases h;have:=hnx (by omega)
    intro p hpp;rcases List.mem_append.1 hpp with g | g
    ·have:=defS_ok hp hdm (by omega) p g;omega
    ·rw [List.mem_singleton.1 g];dsimp only;omega
  ·cases h
 rw [if_neg o11]at h
 by_cases o12:i.Op=12
 ·rw [if_pos o12]at h;split at h <;> cases h
  have:=hnx (by omega)
  intro p hp;rw [List.mem_singleton.1 hp];dsimp only;omega
 rw [if_neg o12]at h
 by_cases o13:i.Op=13 ∨ i.Op=15
 ·rw [if_pos o13]at h;split at h <;> cases h
  have:=hnx (by omega)
  intro p hp;cases hp with
  | head=>dsimp only;omega
  | tail _ hp=>rw [List.mem_singleton.1 hp];dsimp only;omega
 rw [if_neg o13]at h
 by_cases o14:i.Op=14
 ·rw [if_pos o14]at h;split at h <;> cases h
  have:=hnx (by omega)
  intro p hp;rw [List.mem_singleton.1 hp];dsimp only;omega
 rw [if_neg o14]at h
 split at h <;> cases h
 intro p hp;cases hp
theorem aAw {c:CodeProg} (hp:Pre c):Sane (scP c) c.Code.length:=fun m l s h1 h2 h3 h4 h=>by
 unfold scP at h
 split at h
 ·cases h
 ·rename_i i hi;exact scI_ok hp hi h3 h4 h
open Go.SX Go.SW Go.Dt
open Classical in
noncomputable def dB:Code_checker → List (Int × CodeLevel) → Code_checker ⊕ Value
 | x,[]=> .inl x
 | x,p :: s=>match x.levels.get p.1 with
  | some l'=>if l'=p.2 then dB x s else .inr W
  | none=>dB ⟨x.CodeProg,x.begins,x.last,x.levels.upd p.1 p.2,x.todo++[p.1]⟩ s
theorem vI:∀ (s t:List (Int × CodeLevel)) (x:Code_checker),dB x (s++t)=(match dB x s with | .inl y=>dB y t | .inr v=> .inr v)
 | [],_,_=>rfl
 | p :: s,t,x=>by
  rw [List.cons_append,dB,dB];cases x.levels.get p.1 with
  | some l'=>
   dsimp only
   by_cases e:l'=p.2
   ·rw [if_pos e,if_pos e];exact vI s t x
   ·rw [if_neg e,if_neg e]
  | none=>exact vI s t _
theorem yU (p:Int × CodeLevel) (s:List (Int × CodeLevel)) (x:Code_checker):dB x (p :: s)=(match dB x [p]with | .inl y=>dB y s | .inr v=> .inr v):=vI [p] s x
theorem mO:∀ (s:List (Int × CodeLevel)) (x y:Code_checker),dB x s= .inl y → y.CodeProg=x.CodeProg ∧ y.begins=x.begins ∧ y.last=x.last ∧ y.todo.length ≤ x.todo.length+s.length
 | [],x,y,h=>by simp only [dB,Sum.inl.injEq]at h;subst h;exact⟨rfl,rfl,rfl,by simp⟩
 | p :: s,x,y,h=>by
  rw [dB]at h;cases hx:x.levels.get p.1 with
  | some l'=>
   rw [hx]at h;dsimp only at h
   by_cases e:l'=p.2
   ·rw [if_pos e]at h;obtain⟨a,b,c,d⟩:=mO s x y h;exact⟨a,b,c,by simp only [List.length_cons];omega⟩
   ·rw [if_neg e]at h;cases h
  | none=>
   rw [hx]at h;dsimp only at h
   obtain⟨a,b,c,d⟩:=mO s _ y h;exact⟨a,b,c,by simp only [List.length_append,List.length_cons,List.length_nil]at d ⊢;omega⟩
theorem aA9 {n:Nat}:∀ (s:List (Int × CodeLevel)) (x:Code_checker),(∀ p∈s,0 ≤ p.1 ∧ p.1<(n:Int)) → fC x.levels n → (match psh x.levels.get x.todo s with | none=>dB x s= .inr W | some (f,td)=>∃ lv,dB x s= .inl ⟨x.CodeProg,x.begins,x.last,lv,td⟩ ∧ lv.get=f ∧ fC lv n)
 | [],x,_,hk=>⟨x.levels,rfl,rfl,hk⟩
 | p :: s,x,hr,hk=>by
  have hr':∀ q∈s,0 ≤ q.1 ∧ q.1<(n:Int):=fun q hq=>hr q (.tail _ hq)
  rw [psh,dB];cases hx:x.levels.get p.1 with
  | some l'=>
   dsimp only
   by_cases e:l'=p.2
   ·rw [if_pos e,if_pos e];exact aA9 s x hr' hk
   ·rw [if_neg e,if_neg e]
  | none=>exact aA9 s ⟨x.CodeProg,x.begins,x.last,x.levels.upd p.1 p.2,x.todo++[p.1]⟩ hr' (hk.upd (hr p (.head _)))
theorem aAq {a b:CodeLevel}:a=b ↔ (a.Stack=b.Stack ∧ a.Slots=b.Slots):=by
 obtain⟨a1,a2⟩:=a;obtain⟨b1,b2⟩:=b;simp
theorem fR {x:Code_checker} {m:Int} {l:CodeLevel} (ht:x.todo.length ≤ 10000000):jG x m l=some (dB x [(m,l)]):=by
 rw [jG,dB]
 cases hx:x.levels.get m with
 | some l'=>
  simp only [Option.isSome_some,Option.getD_some];rw [cond_true];by_cases e:l'=l
  ·have:=aAq.1 e;rw [decide_eq_true this.1,decide_eq_true this.2,if_pos e];rfl
  ·have:(decide (l'.Stack=l.Stack) && decide (l'.Slots=l.Slots))=false:=by
    rw [← Bool.decide_and];exact decide_eq_false fun g=>e (aAq.2 g)
   rw [this,if_neg e];rfl
 | none=>
  simp only [Option.isSome_none];rw [cond_false,dP (by simp;omega)];rfl
theorem uD {l:CodeLevel} {a b:Int} (h1:0 ≤ l.Stack ∧ l.Stack ≤ 100000000) (ha:0 ≤ a ∧ a ≤ 100) (hb:0 ≤ b ∧ b ≤ 100):kP l a b=some (if a ≤ l.Stack then .inl ⟨l.Stack - a+b,l.Slots⟩ else .inr W):=by
 rw [kP]
 by_cases h:a ≤ l.Stack
 ·rw [decide_eq_true h,dW,bsm,aI (by omega),bsm,aI (by omega),bsm,if_pos h]
 ·rw [decide_eq_false h,cC,bsm,if_neg h]
theorem f1_eq {i:CodeIns} {l:CodeLevel}:oE i l=some (if i.A<l.Slots then .inl l else .inr W):=by
 rw [oE]
 by_cases h:i.A<l.Slots
 ·rw [decide_eq_true h,dW,bsm,if_pos h]
 ·rw [decide_eq_false h,cC,bsm,if_neg h]
theorem f2_eq {l:CodeLevel}:nJ l=some (if l.Stack=0 then .inl l else .inr W):=by
 rw [nJ]
 by_cases h:l.Stack=0
 ·rw [decide_eq_true h,dW,bsm,if_pos h]
 ·rw [decide_eq_false h,cC,bsm,if_neg h]
theorem pf1 {d:ScopeDef} {a:Int} (suf:List ScopeSpot):∀ (pre:List ScopeSpot) (k:Nat) (x:Code_checker),d.Spots=pre++suf → suf.length<k → pre.length+suf.length ≤ 3000000 → x.todo.length+suf.length ≤ 9000000 →
 lG d a k (pre.length:Int) x.CodeProg.Free x.CodeProg.Defs x.CodeProg.Code x.CodeProg.Main x.begins x.last x.levels x.todo=some (match dB x (suf.map fun s=>(s.Node,(⟨0,a⟩:CodeLevel)))with | .inl y=> .inl (y.CodeProg.Free,y.CodeProg.Defs,y.CodeProg.Code,y.CodeProg.Main,y.begins,y.last,y.levels,y.todo) | .inr v=> .inr (.inr v)):=by
 induction suf with
 | nil=>
  intro pre k x h hk _ _;obtain _ | k:=k
  ·omega
  rw [lG,h,if_neg (by simp)];rfl
 | cons e suf ih=>
  intro pre k x h hk hB hT;obtain _ | k:=k
  ·omega
  simp only [List.length_cons]at hk hB hT;rw [lG,h,if_pos (bU _ _ _),bP,bsm];refine b1 (fR (x:=x) (by omega)) ?_
  rw [List.map_cons,yU _ (suf.map fun s=>(s.Node,(⟨0,a⟩:CodeLevel)))];cases hy:dB x [(e.Node,(⟨0,a⟩:CodeLevel))]with
  | inr v=>rfl
  | inl y=>
   obtain⟨_,_,_,h4⟩:=mO _ _ _ hy;simp only [List.length_cons,List.length_nil]at h4;dsimp only
   rw [aI (by omega),bsm,bR pre e];exact ih (pre++[e]) k y (by rw [h];simp) (by omega) (by simp;omega) (by omega)
theorem pf3 {d:ScopeDef} {r:ScopeRule} {n:Nat} (hc:∀ c∈d.Chans,fD n c) {at_:Int} (suf:List Int):∀ (pre pre':List Int) (k:Nat) (acc:Int),r.Joins=pre++suf → eE d.Chans at_ pre' suf → suf.length<k → pre.length+suf.length ≤ 3000000 → 0 ≤ acc ∧ acc+3*(suf.length:Int) ≤ 1000000000 → lR d r k acc (pre.length:Int)=some (acc+eW d.Chans suf):=by
 induction suf with
 | nil=>
  intro pre pre' k acc h _ hk _ _;obtain _ | k:=k
  ·omega
  rw [lR,h,if_neg (by simp),eW];simp
 | cons e suf ih=>
  intro pre pre' k acc h hj hk hB ha;obtain _ | k:=k
  ·omega
  simp only [List.length_cons]at hk hB ha;obtain⟨⟨j1,j2,⟨c,c1,_⟩,_⟩,hj2⟩:=hj;have hm:=hc c (List.mem_of_getElem? c1);have hm1:=hm.2.2.1;have hm2:=hm.2.2.2;have hix:idx d.Chans e=some c:=by
   have:=eA c1
   rwa [show((e.toNat:Nat):Int)=e by omega]at this
  rw [lR,h,if_pos (bU _ _ _),bP,bsm,hix,bsm,aI (by omega),bsm,aI (by omega),bsm,bR pre e,ih (pre++[e]) _ k _ (by rw [h];simp) hj2 (by omega) (by simp;omega) (by omega)];simp only [eW,c1];congr 1;omega
theorem pf2 {fuel:Nat} {d:ScopeDef} (hf:4000000 ≤ fuel) (hok:okD d) {a:Int} (ha:0 ≤ a ∧ a ≤ 100000000) (suf:List ScopeRule):∀ (pre:List ScopeRule) (k:Nat) (x:Code_checker),d.Rules=pre++suf → suf.length<k → pre.length+suf.length ≤ 3000000 → x.todo.length+suf.length ≤ 9000000 →
 kV fuel d a k (pre.length:Int) x.CodeProg.Free x.CodeProg.Defs x.CodeProg.Code x.CodeProg.Main x.begins x.last x.levels x.todo=some (dB x (suf.map fun r=>(r.Node,(⟨0,a+eW d.Chans r.Joins⟩:CodeLevel)))):=by
 induction suf with
 | nil=>
  intro pre k x h hk _ _;obtain _ | k:=k
  ·omega
  rw [kV,h,if_neg (by simp)];rfl
 | cons e suf ih=>
  intro pre k x h hk hB hT;obtain _ | k:=k
  ·omega
  simp only [List.length_cons]at hk hB hT;have he:=hok.2.2.2.1 e (by rw [h];simp)
  have hl3:=he.1.2.2.2;have e3:=pf3 (d:=d) (r:=e) hok.2.1 e.Joins [] [] fuel 0 rfl he.2 (by omega) (by simp;omega) (by omega)
  have hjs:=aAY hok.2.1 he.2;simp only [List.length_nil,Int.natCast_zero,Int.zero_add]at e3;rw [kV,h,if_pos (bU _ _ _),bP];refine bb rfl ?_;refine bb e3 ?_;refine bb (aI (by omega)) ?_
  refine bb (fR (x:=x) (by omega)) ?_
  rw [List.map_cons,yU _ (suf.map fun r=>(r.Node,(⟨0,a+eW d.Chans r.Joins⟩:CodeLevel)))];cases hy:dB x [(e.Node,(⟨0,a+eW d.Chans e.Joins⟩:CodeLevel))]with
  | inr v=>rfl
  | inl y=>
   obtain⟨_,_,_,h4⟩:=mO _ _ _ hy;simp only [List.length_cons,List.length_nil]at h4;refine b1 rfl ?_;dsimp only
   rw [aI (by omega),bsm,bR pre e];exact ih (pre++[e]) k y (by rw [h];simp) (by omega) (by simp;omega) (by omega)
theorem def_eq {fuel:Nat} {d:ScopeDef} (hf:4000000 ≤ fuel) (hok:okD d) {a:Int} (ha:0 ≤ a ∧ a ≤ 100000000) {x:Code_checker} (ht:x.todo.length ≤ 1000000):uN fuel x d a=some (dB x (gQ d a)):=by
 obtain⟨⟨h1,h2,h3⟩,_⟩:=id hok
 have e1:=pf1 (d:=d) (a:=a) d.Spots [] fuel x rfl (by omega) (by simp;omega) (by omega)
 simp only [List.length_nil,Int.natCast_zero]at e1
 rw [uN,e1,bsm,gQ,vI]
 cases hy:dB x (d.Spots.map fun s=>(s.Node,(⟨0,a⟩:CodeLevel)))with
 | inr v=>rfl
 | inl y=>
  obtain⟨_,_,_,h4⟩:=mO _ _ _ hy;simp only [List.length_map]at h4;have e2:=pf2 (fuel:=fuel) (d:=d) hf hok ha d.Rules [] fuel y rfl (by omega) (by simp;omega) (by omega)
  simp only [List.length_nil,Int.natCast_zero]at e2;exact e2
theorem grp5 (a:Int):(if a=3 then some (decide (a=3)) else if a=4 then some (decide (a=4)) else if a=5 then some (decide (a=5)) else if a=6 then some (decide (a=6)) else some (decide (a=7)))=some (decide (3 ≤ a ∧ a ≤ 7)):=by
 by_cases h:3 ≤ a ∧ a ≤ 7
 ·have:a=3 ∨ a=4 ∨ a=5 ∨ a=6 ∨ a=7:=by omega
  rcases this with rfl | rfl | rfl | rfl | rfl <;> rfl
 ·rw [if_neg (by omega),if_neg (by omega),if_neg (by omega),if_neg (by omega),decide_eq_false h,decide_eq_false (by omega)]
theorem grp2 (a:Int):(if a=13 then some (decide (a=13)) else some (decide (a=15)))=some (decide (a=13 ∨ a=15)):=by
 by_cases h:a=13
 ·subst h;rfl
 ·rw [if_neg h];simp [h]
theorem aEo {C:List CodeIns} {la:List Int} (h:mU C la C.length) {n:Nat} {i:CodeIns} (hn:n<C.length) (ho:i.Op=9 ∨ i.Op=10) (hA:(n:Int)<i.A ∧ i.A<(C.length:Int)):∃ q:Int,idx la (n:Int)=some q ∧ (i.A ≤ q ↔ dR C n i):=by
 obtain⟨q,h1,h2,h3,⟨e,h4,h5⟩,h6⟩:=h n hn
 refine⟨(q:Int),eA h1,fun g _ k k1 k2 j k3=>h6 k k1 (by omega) j k3,fun g=>?_⟩
 by_cases g2:(q:Int)<i.A
 ·exact absurd h5 (g ho q h2 g2 e h4)
 ·omega
open Go.SX Go.SW Go.Dt
theorem rr (r:Code_checker ⊕ Value):(match r with | Sum.inr pv=>some (Sum.inr pv) | Sum.inl y=>some (Sum.inl (⟨(⟨y.CodeProg.Free,y.CodeProg.Defs,y.CodeProg.Code,y.CodeProg.Main⟩:CodeProg),y.begins,y.last,y.levels,y.todo⟩:Code_checker)))=some r:=by cases r <;> rfl
theorem aG8 {fuel:Nat} {x:Code_checker} {n:Nat} {i:CodeIns} {l:CodeLevel} (hf:4000000 ≤ fuel) (hp:Pre x.CodeProg) (hi:x.CodeProg.Code[n]? =some i) (hl:x.levels.get (n:Int)=some l) (hla:mU x.CodeProg.Code x.last x.CodeProg.Code.length)
 (hS:0 ≤ l.Stack ∧ l.Stack ≤ 10000000) (hK:0 ≤ l.Slots ∧ l.Slots ≤ 10000000) (ht:x.todo.length ≤ 100000):
 pV fuel x (n:Int)=some (match scI x.CodeProg n i l with | none=> .inr W | some s=>dB x s):=by
 obtain⟨hok,hin⟩:=hp.okI n i hi
 have hn:=(List.getElem?_eq_some_iff.1 hi).1
 have hlen:=hp.len
 have hj:=hok.jump;have hs8:=hok.send;have h11:=hok.df;have hpos:=hok.pos;have hop:=hok.op
 rw [pV]
 refine b1 (eA hi) ?_
 dsimp only
 rw [hl]
 dsimp only [Option.getD_some]
 rw [scI]
 by_cases o1:i.Op=1
 ·rw [if_pos o1,if_pos o1,uD (l:=⟨l.Stack,l.Slots⟩) (by dsimp only;omega) (by omega) (by omega),if_pos (by dsimp only;omega)];refine bb rfl ?_;dsimp only
  refine b1 rfl ?_;dsimp only
  refine b1 (aI (by omega)) ?_
  refine b1 (fR (x:=x) (by omega)) ?_
  rw [show l.Stack - 0+1=l.Stack+1 by omega];exact rr _
 rw [if_neg o1,if_neg o1]
 by_cases o2:i.Op=2
 ·rw [if_pos o2,if_pos o2,f1_eq];by_cases g:i.A<l.Slots
  ·rw [if_pos g,if_pos g];refine bb rfl ?_;dsimp only
   rw [uD (l:=⟨l.Stack,l.Slots⟩) (by dsimp only;omega) (by omega) (by omega),if_pos (by dsimp only;omega)];refine bb rfl ?_;dsimp only
   refine b1 rfl ?_;dsimp only
   refine b1 (aI (by omega)) ?_
   refine b1 (fR (x:=x) (by omega)) ?_
   rw [show l.Stack - 0+1=l.Stack+1 by omega];exact rr _
  ·rw [if_neg g,if_neg g];rfl
 rw [if_neg o2,if_neg o2]
 refine bb (grp5 i.Op) ?_
 by_cases o3:3 ≤ i.Op ∧ i.Op ≤ 7
 ·rw [decide_eq_true o3,cond_true,if_pos o3,uD (l:=⟨l.Stack,l.Slots⟩) (by dsimp only;omega) (by omega) (by omega)];dsimp only
  by_cases g:2 ≤ l.Stack
  ·rw [if_pos g,if_pos g];refine bb rfl ?_;dsimp only
   refine b1 rfl ?_;dsimp only
   refine b1 (aI (by omega)) ?_
   refine b1 (fR (x:=x) (by omega)) ?_
   rw [show l.Stack - 2+1=l.Stack - 1 by omega];exact rr _
  ·rw [if_neg g,if_neg g];rfl
 rw [decide_eq_false o3,cond_false,if_neg o3]
 by_cases o8:i.Op=8
 ·have hb:=hs8 o8;rw [if_pos o8,if_pos o8,f1_eq];by_cases g:i.A<l.Slots
  ·rw [if_pos g];refine bb rfl ?_;dsimp only
   rw [uD (l:=⟨l.Stack,l.Slots⟩) (by dsimp only;omega) (by omega) (by omega)];dsimp only
   by_cases g2:i.B ≤ l.Stack
   ·rw [if_pos g2,if_pos ⟨g,g2⟩];refine bb rfl ?_;dsimp only
    refine b1 rfl ?_;dsimp only
    refine b1 (aI (by omega)) ?_
    refine b1 (fR (x:=x) (by omega)) ?_
    rw [show l.Stack - i.B+0=l.Stack - i.B by omega];exact rr _
   ·rw [if_neg g2,if_neg (fun q:i.A<l.Slots ∧ i.B ≤ l.Stack=>g2 q.2)];rfl
  ·rw [if_neg g,if_neg (fun q:i.A<l.Slots ∧ i.B ≤ l.Stack=>g q.1)];rfl
 rw [if_neg o8,if_neg o8]
 by_cases o9:i.Op=9
 ·obtain⟨q,q1,q2⟩:=aEo hla hn (.inl o9) (hj (.inl o9));rw [if_pos o9,if_pos o9,uD (l:=⟨l.Stack,l.Slots⟩) (by dsimp only;omega) (by omega) (by omega)];dsimp only
  by_cases g:1 ≤ l.Stack
  ·rw [if_pos g];refine bb rfl ?_;dsimp only
   refine bb q1 ?_;by_cases g2:i.A ≤ q
   ·rw [decide_eq_true g2,dW,if_pos ⟨g,q2.1 g2⟩,show l.Stack - 1+0=l.Stack - 1 by omega];refine bb rfl ?_;dsimp only
    rw [yU _ [((n:Int)+1,_)]];refine bb (fR (x:=x) (by omega)) ?_
    cases hy:dB x [(i.A,(⟨l.Stack - 1,l.Slots⟩:CodeLevel))]with
    | inr v=>rfl
    | inl y=>
     obtain⟨_,_,_,h4⟩:=mO _ _ _ hy;simp only [List.length_cons,List.length_nil]at h4;dsimp only
     refine b1 rfl ?_;dsimp only
     refine b1 (aI (by omega)) ?_
     refine b1 (fR (x:=y) (by omega)) ?_
     exact rr _
   ·rw [decide_eq_false g2,cC,if_neg (fun z:1 ≤ l.Stack ∧ dR x.CodeProg.Code n i=>g2 (q2.2 z.2))];rfl
  ·rw [if_neg g,if_neg (fun z:1 ≤ l.Stack ∧ dR x.CodeProg.Code n i=>g z.1)];rfl
 rw [if_neg o9,if_neg o9]
 by_cases o10:i.Op=10
 ·obtain⟨q,q1,q2⟩:=aEo hla hn (.inr o10) (hj (.inr o10));rw [if_pos o10,if_pos o10];refine bb q1 ?_;by_cases g2:i.A ≤ q
  ·rw [decide_eq_true g2,dW,if_pos (q2.1 g2)];refine bb rfl ?_;dsimp only
   refine bb (fR (x:=x) (by omega)) ?_
   have:(⟨l.Stack,l.Slots⟩:CodeLevel)=l:=rfl;rw [this];cases hy:dB x [(i.A,l)]with
   | inr v=>rfl
   | inl y=>rfl
  ·rw [decide_eq_false g2,cC,if_neg (fun z=>g2 (q2.2 z))];rfl
 rw [if_neg o10,if_neg o10]
 by_cases o11:i.Op=11
 ·have hA:=h11 o11;have hA2:=hpos (by omega)
  rw [if_pos o11,if_pos o11,f2_eq];dsimp only
  by_cases g:l.Stack=0
  ·rw [if_pos g,if_pos g];refine bb rfl ?_;dsimp only
   have hd:x.CodeProg.Defs[i.A.toNat]? =some (x.CodeProg.Defs[i.A.toNat]'(by omega)):=List.getElem?_eq_getElem _
   have hix:=dU (xs:=x.CodeProg.Defs) hA2.1 hA;have hdm:=List.mem_of_getElem? hd;rw [hd];refine bb hix ?_;generalize x.CodeProg.Defs[i.A.toNat]'(by omega)=d at hdm
   have hdo:=(hp.okD d hdm).1;have hd3:=hdo.1;refine bb (aI (by omega)) ?_
   refine bb (aI (by omega)) ?_
   have hk:l.Slots+((d.Chans.length:Int)+(d.Spots.length:Int))=l.Slots+(d.Chans.length+d.Spots.length:Nat):=by omega
   rw [hk];refine bb (def_eq (x:=x) hf hdo (by omega) (by omega)) ?_
   dsimp only
   rw [vI];cases hy:dB x (gQ d (l.Slots+(d.Chans.length+d.Spots.length:Nat)))with
   | inr v=>rfl
   | inl y=>
    obtain⟨_,_,_,h4⟩:=mO _ _ _ hy;simp only [gQ,List.length_append,List.length_map]at h4;dsimp only
    refine b1 rfl ?_;dsimp only
    refine b1 (aI (by omega)) ?_
    refine b1 (fR (x:=y) (by omega)) ?_
    exact rr _
  ·rw [if_neg g,if_neg g];rfl
 rw [if_neg o11,if_neg o11]
 by_cases o12:i.Op=12
 ·rw [if_pos o12,if_pos o12];by_cases g:i.A ≤ l.Slots
  ·rw [decide_eq_true g,dW,if_pos g];refine bb rfl ?_;dsimp only
   refine b1 rfl ?_;dsimp only
   refine b1 (aI (by omega)) ?_
   refine b1 (fR (x:=x) (by omega)) ?_
   exact rr _
  ·rw [decide_eq_false g,cC,if_neg g];rfl
 rw [if_neg o12,if_neg o12]
 refine bb (grp2 i.Op) ?_
 by_cases o13:i.Op=13 ∨ i.Op=15
 ·rw [decide_eq_true o13,cond_true,if_pos o13,f1_eq];by_cases g:i.A<l.Slots
  ·rw [if_pos g];refine bb rfl ?_;dsimp only
   rw [f2_eq];dsimp only
   by_cases g2:l.Stack=0
   ·rw [if_pos g2,if_pos ⟨g,g2⟩];refine bb rfl ?_;dsimp only
    rw [yU _ [((n:Int)+1,_)]];refine bb (fR (x:=x) (by omega)) ?_
    cases hy:dB x [(i.B,(⟨0,l.Slots⟩:CodeLevel))]with
    | inr v=>rfl
    | inl y=>
     obtain⟨_,_,_,h4⟩:=mO _ _ _ hy;simp only [List.length_cons,List.length_nil]at h4;dsimp only
     refine b1 rfl ?_;dsimp only
     refine b1 (aI (by omega)) ?_
     refine b1 (fR (x:=y) (by omega)) ?_
     exact rr _
   ·rw [if_neg g2,if_neg (fun z:i.A<l.Slots ∧ l.Stack=0=>g2 z.2)];rfl
  ·rw [if_neg g,if_neg (fun z:i.A<l.Slots ∧ l.Stack=0=>g z.1)];rfl
 rw [decide_eq_false o13,cond_false,if_neg o13]
 by_cases o14:i.Op=14
 ·rw [if_pos o14,if_pos o14,f2_eq];dsimp only
  by_cases g:l.Stack=0
  ·rw [if_pos g,if_pos g];refine bb rfl ?_;dsimp only
   refine b1 rfl ?_;dsimp only
   refine b1 (aI (by omega)) ?_
   refine b1 (fR (x:=x) (by omega)) ?_
   exact rr _
  ·rw [if_neg g,if_neg g];rfl
 rw [if_neg o14,if_neg o14]
 have o16:i.Op=16:=by omega
 rw [if_pos o16,f2_eq]
 dsimp only
 by_cases g:l.Stack=0
 ·rw [if_pos g,if_pos g];rfl
 ·rw [if_neg g,if_neg g];rfl
open Go.SX Go.SW Go.Dt
theorem qY {c:CodeProg} {m:Int} {i:CodeIns} (hi:c.Code[m.toNat]? =some i) (l:CodeLevel):scP c m l=scI c m.toNat i l:=by unfold scP;rw [hi]
theorem pl2 {fuel n:Nat} {c:CodeProg} {b la:List Int} {a:Int} {l0:CodeLevel} (hf:4000000 ≤ fuel) (hp:Pre c) (hn:n=c.Code.length) (hla:mU c.Code la c.Code.length):∀ (k:Nat) (lv:aC Int CodeLevel) (td:List Int) (B:Int),fC lv n → LvI (scP c) n a l0 lv.get td B → cnt lv.get n+td.length<k → 0 ≤ B → B+1000*((cnt lv.get n+td.length:Nat):Int) ≤ 1000000 →
 (∃ lv' B',iF fuel k c.Free c.Defs c.Code c.Main b la lv td=some (.inl (c.Free,c.Defs,c.Code,c.Main,b,la,lv',[])) ∧ fC lv' n ∧ LvI (scP c) n a l0 lv'.get [] B') ∨ (iF fuel k c.Free c.Defs c.Code c.Main b la lv td=some (.inr (none,false)) ∧ Bad (scP c) a l0)
 | 0,_,_,_,_,_,h,_,_=>by omega
 | k+1,lv,td,B,hk,hI,hm,hB0,hB=>by
  rcases List.eq_nil_or_concat td with rfl | ⟨td,m,rfl⟩
  ·exact .inl ⟨lv,B,by rw [iF,if_neg (by simp)],hk,hI⟩
  ·rw [List.concat_eq_append]at *
   obtain⟨l,hl⟩:=hI.has m (by simp)
   obtain⟨r1,r2,r3,r4⟩:=hI.r m l hl;subst hn;have hmn:((m.toNat:Nat):Int)=m:=by omega
   have hi:c.Code[m.toNat]? =some (c.Code[m.toNat]'(by omega)):=List.getElem?_eq_getElem _
   have hlen:=hp.len;have hcl:=oP lv.get c.Code.length;simp only [List.length_append,List.length_singleton]at hm hB;have hfo:=aG8 (fuel:=fuel) (x:=⟨c,b,la,lv,td⟩) (n:=m.toNat) (l:=l) hf hp hi (by rw [hmn];exact hl) hla (by omega) (by omega) (by dsimp only;omega)
   rw [hmn]at hfo;have hsc:=qY hi l;have hrest:∀ z,pV fuel (⟨(⟨c.Free,c.Defs,c.Code,c.Main⟩:CodeProg),b,la,lv,td⟩:Code_checker) m=some z → iF fuel (k+1) c.Free c.Defs c.Code c.Main b la lv (td++[m])=match z with
    | Sum.inr pv11=>((unW 163 pv11).bind fun e16=>some (none,false)).bind fun r=>some (Sum.inr r)
    | Sum.inl y15=>iF fuel k y15.CodeProg.Free y15.CodeProg.Defs y15.CodeProg.Code y15.CodeProg.Main y15.begins y15.last y15.levels y15.todo:=fun z hz=>by
    have e1:((td++[m]).length:Int) - 1=(td.length:Int):=by simp
    rw [iF,if_pos (by simp),e1];refine b1 (aI (by omega)) ?_
    refine b1 (bP td [] m) ?_;refine b1 (aI (by omega)) ?_
    refine b1 (xT td [m]) ?_;refine b1 hz ?_;cases z <;> rfl
   cases hs:scI c m.toNat (c.Code[m.toNat]'(by omega)) l with
   | none=>
    rw [hs]at hfo hsc;refine .inr ⟨?_,m,l,r1, .inl hsc⟩;rw [hrest _ hfo];rfl
   | some s=>
    rw [hs]at hfo hsc;dsimp only at hfo
    have hsane:=aAw hp;have hrs:∀ p∈s,0 ≤ p.1 ∧ p.1<(c.Code.length:Int):=fun p hp'=>(hsane m l s r2.1 r2.2 r3.1 r4.1 hsc p hp').1
    have hpp:=aA9 (n:=c.Code.length) s ⟨c,b,la,lv,td⟩ hrs hk;dsimp only at hpp
    cases hps:psh lv.get td s with
    | none=>
     rw [hps]at hpp;dsimp only at hpp
     refine .inr ⟨?_,hI.bad hl hsc (fun _=>Iff.rfl) hps⟩
     rw [hrest _ hfo,hpp];rfl
    | some ft=>
     obtain⟨f,td'⟩:=ft;rw [hps]at hpp;obtain⟨lv',p1,p2,p3⟩:=hpp;obtain⟨i1,i2⟩:=hI.step hsane hl hsc (fun _=>Iff.rfl) hps
     subst p2;rw [hrest _ hfo,p1];exact pl2 hf hp rfl hla k lv' td' (B+1000) p3 i1 (by omega) (by omega) (by omega)
open Classical in
theorem pl1 {fuel n:Nat} {c:CodeProg} {F M:Int} {D:List ScopeDef} {C:List CodeIns} {b la td:List Int} {lv:aC Int CodeLevel} (hf:4000000 ≤ fuel) (suf:List ScopeDef):∀ (pre:List ScopeDef) (k:Nat),c.Defs=pre++suf → suf.length<k → pre.length+suf.length ≤ 3000000 → (∀ d∈suf,smD d) →
 lV fuel c k (pre.length:Int) F D C M b la lv td=some (if ∀ d∈suf,okD d ∧ inD C.length d then .inl (F,D,C,M,b,la,lv,td) else .inr (none,false)):=by
 induction suf with
 | nil=>
  intro pre k h hk _ _;obtain _ | k:=k
  ·omega
  rw [lV,h,if_neg (by simp),if_pos (fun d h=>by cases h)]
 | cons e suf ih=>
  intro pre k h hk hB hs;obtain _ | k:=k
  ·omega
  simp only [List.length_cons]at hk hB;rw [lV,h,if_pos (bU _ _ _),bP,bsm];refine b1 (aGY (x:=⟨⟨F,D,C,M⟩,b,la,lv,td⟩) (d:=e) hf (hs e (.head _))) ?_;dsimp only
  by_cases g:okD e ∧ inD C.length e
  ·rw [if_pos g];dsimp only
   rw [aI (by omega),bsm,bR pre e,ih (pre++[e]) k (by rw [h];simp) (by omega) (by simp;omega) (fun d hd=>hs d (.tail _ hd))];have:(∀ d∈e :: suf,okD d ∧ inD C.length d) ↔ ∀ d∈suf,okD d ∧ inD C.length d:=⟨fun q d hd=>q d (.tail _ hd),fun q d hd=>by
    cases hd with
    | head=>exact g
    | tail _ hd=>exact q d hd⟩
   by_cases q:∀ d∈suf,okD d ∧ inD C.length d
   ·rw [if_pos q,if_pos (this.2 q)]
   ·rw [if_neg q,if_neg (fun z=>q (this.1 z))]
  ·rw [if_neg g,if_neg (fun q:∀ d∈e :: suf,okD d ∧ inD C.length d=>g (q e (.head _)))];rfl
structure iO (c:CodeProg):Prop where
 free:0 ≤ c.Free ∧ c.Free ≤ 12
 defs:c.Defs.length ≤ 12
 code:0<c.Code.length ∧ c.Code.length ≤ 12000
 main:0 ≤ c.Main ∧ c.Main<(c.Code.length:Int)
 okD:∀ d∈c.Defs,okD d ∧ inD c.Code.length d
 ins:(gK c.Defs.length c.Code.length 0 c.Code ∧ dE [] c.Code) ∧ (dK [] c.Code).length=c.Defs.length
 bl:okB c
theorem xF {dl len:Nat}:∀ {l:List CodeIns} {n:Nat},gK dl len n l ↔ ∀ (j:Nat) i,l[j]? =some i → okI dl len ((n+j:Nat):Int) i ∧ inI len i
 | [],n=>by simp [gK]
 | e :: l,n=>by
  simp only [gK,xF (l:=l)];constructor
  ·rintro⟨h1,h2⟩ j i hj
   cases j with
   | zero=>simp at hj;subst hj;exact h1
   | succ j=>have:=h2 j i (by simpa using hj);rwa [show n+1+j=n+(j+1) by omega]at this
  ·intro h;refine⟨h 0 e rfl,fun j i hj=>?_⟩
   have:=h (j+1) i (by simpa using hj)
   rwa [show n+(j+1)=n+1+j by omega]at this
theorem iO.pre {c:CodeProg} (h:iO c) (hl:c.Code.length ≤ 400):Pre c where
 len:=hl
 defs:=h.defs
 okD:=h.okD
 okI:=fun n i hi=>by have:=xF.1 h.ins.1.1 n i hi;rwa [Nat.zero_add]at this
 end_:=fun i hi=>by
  have:=h.bl.2.2;rw [aBv hi]at this;exact of_decide_eq_true this
theorem aBb {c:CodeProg} (hd:c.Defs.length ≤ 12) (hl:c.Code.length ≤ 400) (hp:∀ d∈c.Defs,okD d):SmB c:=⟨by omega,hd,fun d h=>⟨(hp d h).1.2.2,(hp d h).1.2.1⟩⟩
def fE (c:CodeProg):Prop:=iO c ∧ ¬ Bad (scP c) c.Main ⟨0,c.Free⟩ ∧ ∀ i:Nat,i<c.Code.length → ∃ l,R (scP c) c.Main ⟨0,c.Free⟩ (i:Int) l
theorem aB0 {c:Prop} [Decidable c] (h:¬ c):bJ (decide c)=some (.inr W):=by rw [decide_eq_false h];rfl
theorem start {c:CodeProg} {f:FT} (hb:iO c) (h:f=fup (fun _=>none) c.Main ⟨0,c.Free⟩):LvI (scP c) c.Code.length c.Main ⟨0,c.Free⟩ f [c.Main] 12:=by
 subst h
 have h1:∀ m l,fup (fun _=>none) c.Main ⟨0,c.Free⟩ m=some l → m=c.Main ∧ l=⟨0,c.Free⟩:=fun m l hm=>by
  unfold fup at hm;split at hm
  ·cases hm;exact⟨by assumption,rfl⟩
  ·cases hm
 refine⟨fun m hm=>⟨⟨0,c.Free⟩,if_pos (List.mem_singleton.1 hm)⟩,fun m l hm=>?_,fun m l hm hn=>?_,if_pos rfl⟩
 ·obtain⟨rfl,rfl⟩:=h1 m l hm;exact⟨.base,hb.main,by simp,hb.free⟩
 ·obtain⟨rfl,rfl⟩:=h1 m l hm;exact absurd (List.mem_singleton.2 rfl) hn
theorem aFn {fuel:Nat} {c:CodeProg} (hf:4000000 ≤ fuel) (hl:c.Code.length ≤ 400) (hd:∀ d∈c.Defs,smD d):
 (fE c ∧ ∃ x,eI fuel c=some (some x,true) ∧ x.begins=bS (bgs c) ∧ ∀ (i:Nat) l,x.levels.get (i:Int)=some l ↔ R (scP c) c.Main ⟨0,c.Free⟩ (i:Int) l) ∨ (¬ fE c ∧ eI fuel c=some (none,false)):=by
 have hno:¬ iO c → eI fuel c=some (none,false) → (fE c ∧ ∃ x,eI fuel c=some (some x,true) ∧ x.begins=bS (bgs c) ∧ ∀ (i:Nat) l,x.levels.get (i:Int)=some l ↔ R (scP c) c.Main ⟨0,c.Free⟩ (i:Int) l) ∨ (¬ fE c ∧ eI fuel c=some (none,false)):=fun h1 h2=> .inr ⟨fun g=>h1 g.1,h2⟩
 by_cases h1:0 ≤ c.Free
 rotate_left
 ·refine hno (fun g=>h1 g.free.1) ?_
  rw [eI,if_neg h1];rfl
 by_cases h2:c.Free ≤ 12
 rotate_left
 ·refine hno (fun g=>h2 g.free.2) ?_
  rw [eI,if_pos h1,if_neg h2];rfl
 by_cases h3:(c.Defs.length:Int) ≤ 12
 rotate_left
 ·refine hno (fun g=>h3 (by have:=g.defs;omega)) ?_
  rw [eI,if_pos h1,if_pos h2,if_neg h3];rfl
 by_cases h4:0<(c.Code.length:Int)
 rotate_left
 ·refine hno (fun g=>h4 (by have:=g.code;omega)) ?_
  rw [eI,if_pos h1,if_pos h2,if_pos h3,if_neg h4];rfl
 by_cases h5:(c.Code.length:Int) ≤ 12000
 rotate_left
 ·refine hno (fun g=>h5 (by have:=g.code;omega)) ?_
  rw [eI,if_pos h1,if_pos h2,if_pos h3,if_pos h4,if_neg h5];rfl
 by_cases h6:0 ≤ c.Main ∧ c.Main<(c.Code.length:Int)
 rotate_left
 ·refine hno (fun g=>h6 g.main) ?_
  rw [eI,if_pos h1,if_pos h2,if_pos h3,if_pos h4,if_pos h5];refine bb (nV _ _) ?_;refine bb (aB0 h6) ?_;rfl
 have hins:∀ x:Code_checker,x.CodeProg=c → jP x c.Main=some (x,true):=fun x hx=>by rw [nV,hx,decide_eq_true h6]
 have e1:=pl1 (fuel:=fuel) (n:=0) (c:=c) (F:=c.Free) (M:=c.Main) (D:=c.Defs) (C:=c.Code) (b:=[]) (la:=[]) (td:=[]) (lv:=aC.none) hf c.Defs [] fuel rfl (by omega) (by simp;omega) hd
 simp only [List.length_nil,Int.natCast_zero]at e1
 by_cases h7:∀ d∈c.Defs,okD d ∧ inD c.Code.length d
 rotate_left
 ·refine hno (fun g=>h7 g.okD) ?_
  rw [if_neg h7]at e1;rw [eI,if_pos h1,if_pos h2,if_pos h3,if_pos h4,if_pos h5];refine bb (hins _ rfl) ?_;refine bb dW ?_;refine b1 rfl ?_;dsimp only
  refine b1 e1 ?_;rfl
 rw [if_pos h7]at e1
 have e2:=aGn (fuel:=fuel) (x:=⟨c,[],[],aC.none,[]⟩) hf (by dsimp only;omega)
 dsimp only at e2
 by_cases h8:(gK c.Defs.length c.Code.length 0 c.Code ∧ dE [] c.Code) ∧ (dK [] c.Code).length=c.Defs.length
 rotate_left
 ·refine hno (fun g=>h8 g.ins) ?_
  rw [if_neg h8]at e2;rw [eI,if_pos h1,if_pos h2,if_pos h3,if_pos h4,if_pos h5];refine bb (hins _ rfl) ?_;refine bb dW ?_;refine b1 rfl ?_;dsimp only
  refine b1 e1 ?_;dsimp only
  refine b1 e2 ?_;rfl
 rw [if_pos h8]at e2
 have hsm:=aBb (by omega) hl fun d hd=>(h7 d hd).1
 obtain⟨la,e3,hla⟩:=aFW (fuel:=fuel) (x:=⟨c,[],[],aC.none,[]⟩) hf hsm (by intro g;dsimp only at g;rw [g]at h4;simp at h4)
 dsimp only at e3 hla
 by_cases h9:okB c
 rotate_left
 ·refine hno (fun g=>h9 g.bl) ?_
  rw [if_neg h9]at e3;rw [eI,if_pos h1,if_pos h2,if_pos h3,if_pos h4,if_pos h5];refine bb (hins _ rfl) ?_;refine bb dW ?_;refine b1 rfl ?_;dsimp only
  refine b1 e1 ?_;dsimp only
  refine b1 e2 ?_;dsimp only
  refine b1 e3 ?_;rfl
 rw [if_pos h9]at e3
 have hbasic:iO c:=⟨⟨h1,h2⟩,by omega,⟨by omega,by omega⟩,h6,h7,h8,h9⟩
 have hpre:=hbasic.pre hl
 have e4:=fR (x:=⟨c,bS (bgs c),la,aC.none,[]⟩) (m:=c.Main) (l:=⟨0,c.Free⟩) (by simp)
 have e4':dB ⟨c,bS (bgs c),la,aC.none,[]⟩ [(c.Main,⟨0,c.Free⟩)]= .inl ⟨c,bS (bgs c),la,aC.none.upd c.Main ⟨0,c.Free⟩,[c.Main]⟩:=rfl
 rw [e4']at e4
 have hst:=start (f:=(aC.none.upd c.Main (⟨0,c.Free⟩:CodeLevel)).get) hbasic rfl
 have hcl:=oP (aC.none.upd c.Main (⟨0,c.Free⟩:CodeLevel)).get c.Code.length
 have e5:=pl2 (fuel:=fuel) (n:=c.Code.length) (c:=c) (b:=bS (bgs c)) (la:=la) hf hpre rfl (hla h9).2 fuel (aC.none.upd c.Main ⟨0,c.Free⟩) [c.Main] 12 ((fC.none _).upd h6) hst (by simp only [List.length_singleton];omega) (by omega) (by simp only [List.length_singleton];omega)
 rcases e5 with⟨lv,B,e5,hk,hI⟩ | ⟨e5,hbad⟩
 ·have hcl:=hI.closed;by_cases h10:(lv.size:Int)=(c.Code.length:Int)
  ·refine .inl ⟨⟨hbasic,hI.good,fun i hi=>?_⟩,⟨c,bS (bgs c),la,lv,[]⟩,?_,rfl,fun i l=>(hcl _ _).symm⟩
   ·have:=hk.full.1 (by omega) i hi
    obtain⟨l,hl⟩:=Option.isSome_iff_exists.1 this;exact⟨l,(hcl _ _).2 hl⟩
   ·rw [eI,if_pos h1,if_pos h2,if_pos h3,if_pos h4,if_pos h5];refine bb (hins _ rfl) ?_;refine bb dW ?_;refine b1 rfl ?_;dsimp only
    refine b1 e1 ?_;dsimp only
    refine b1 e2 ?_;dsimp only
    refine b1 e3 ?_;dsimp only
    refine b1 e4 ?_;dsimp only
    refine b1 e5 ?_;dsimp only
    refine b1 (z:= .inl ()) (by rw [decide_eq_true h10];rfl) ?_
    rfl
  ·refine .inr ⟨fun g=>h10 ?_,?_⟩
   ·have:=hk.full.2 fun i hi=>by
     obtain⟨l,hl⟩:=g.2.2 i hi;rw [(hcl _ _).1 hl];rfl
    omega
   ·rw [eI,if_pos h1,if_pos h2,if_pos h3,if_pos h4,if_pos h5];refine bb (hins _ rfl) ?_;refine bb dW ?_;refine b1 rfl ?_;dsimp only
    refine b1 e1 ?_;dsimp only
    refine b1 e2 ?_;dsimp only
    refine b1 e3 ?_;dsimp only
    refine b1 e4 ?_;dsimp only
    refine b1 e5 ?_;dsimp only
    refine b1 (aB0 h10) ?_;rfl
 ·refine .inr ⟨fun g=>g.2.1 hbad,?_⟩
  rw [eI,if_pos h1,if_pos h2,if_pos h3,if_pos h4,if_pos h5];refine bb (hins _ rfl) ?_;refine bb dW ?_;refine b1 rfl ?_;dsimp only
  refine b1 e1 ?_;dsimp only
  refine b1 e2 ?_;dsimp only
  refine b1 e3 ?_;dsimp only
  refine b1 e4 ?_;dsimp only
  refine b1 e5 ?_;rfl
open Go.SX Go.SW Go.Dt
def pP (c:CodeProg):Prop:=∀ (n:Nat) i,c.Code[n]? =some i → dR c.Code n i
open Classical in
theorem rs1 {fuel:Nat} {c:CodeProg} (hf:4000000 ≤ fuel) (suf:List ScopeDef):∀ (pre:List ScopeDef) (k:Nat),c.Defs=pre++suf → suf.length<k → pre.length+suf.length ≤ 3000000 → (∀ d∈suf,smD d) →
 uP fuel c k (pre.length:Int)=some (if ∀ d∈suf,okD d then .inl () else .inr false):=by
 induction suf with
 | nil=>
  intro pre k h hk _ _;obtain _ | k:=k
  ·omega
  rw [uP,h,if_neg (by simp),if_pos (fun d h=>by cases h)]
 | cons e suf ih=>
  intro pre k h hk hB hs;obtain _ | k:=k
  ·omega
  simp only [List.length_cons]at hk hB;rw [uP,h,if_pos (bU _ _ _),bP,bsm,parts_eq hf (hs e (.head _)),bsm];by_cases g:okD e
  ·rw [decide_eq_true g,cond_true,aI (by omega),bsm,bR pre e,ih (pre++[e]) k (by rw [h];simp) (by omega) (by simp;omega) (fun d hd=>hs d (.tail _ hd))];have:(∀ d∈e :: suf,okD d) ↔ ∀ d∈suf,okD d:=⟨fun q d hd=>q d (.tail _ hd),fun q d hd=>by
    cases hd with
    | head=>exact g
    | tail _ hd=>exact q d hd⟩
   by_cases q:∀ d∈suf,okD d
   ·rw [if_pos q,if_pos (this.2 q)]
   ·rw [if_neg q,if_neg (fun z=>q (this.1 z))]
  ·rw [decide_eq_false g,cond_false,if_neg (fun q:∀ d∈e :: suf,okD d=>g (q e (.head _)))];rfl
open Classical in
theorem rs2 {fuel:Nat} {c:CodeProg} (hf:4000000 ≤ fuel) (hl:c.Code.length ≤ 2000000):∀ (k n:Nat),n ≤ c.Code.length → c.Code.length - n<k → rS fuel c k (n:Int)=some (if ∀ (j:Nat) i,n ≤ j → c.Code[j]? =some i → okI c.Defs.length c.Code.length j i ∧ dR c.Code j i then .inl () else .inr false)
 | 0,_,_,hk=>by omega
 | k+1,n,hn,hk=>by
  by_cases h:n<c.Code.length
  ·have hi:=List.getElem?_eq_getElem h;rw [rS,if_pos (by omega)];refine b1 (aFt (c:=c) hf hl hi) ?_;by_cases g:okI c.Defs.length c.Code.length n c.Code[n] ∧ dR c.Code n c.Code[n]
   ·rw [decide_eq_true g,cond_true,aI (by omega),bsm];have:=rs2 hf hl k (n+1) (by omega) (by omega)
    rw [show(n:Int)+1=((n+1:Nat):Int) by omega,this];have e:(∀ (j:Nat) i,n+1 ≤ j → c.Code[j]? =some i → okI c.Defs.length c.Code.length j i ∧ dR c.Code j i) ↔ (∀ (j:Nat) i,n ≤ j → c.Code[j]? =some i → okI c.Defs.length c.Code.length j i ∧ dR c.Code j i):=⟨fun q j i h1 h2=>by
     by_cases z:j=n
     ·subst z;rw [hi]at h2;cases h2;exact g
     ·exact q j i (by omega) h2,fun q j i h1 h2=>q j i (by omega) h2⟩
    by_cases q:(∀ (j:Nat) i,n+1 ≤ j → c.Code[j]? =some i → okI c.Defs.length c.Code.length j i ∧ dR c.Code j i)
    ·rw [if_pos q,if_pos (e.1 q)]
    ·rw [if_neg q,if_neg (fun z=>q (e.2 z))]
   ·rw [decide_eq_false g,cond_false,if_neg (fun q:(∀ (j:Nat) i,n ≤ j → c.Code[j]? =some i → okI c.Defs.length c.Code.length j i ∧ dR c.Code j i)=>g (q n _ (Nat.le_refl _) hi))];rfl
  ·rw [rS,if_neg (by omega),if_pos (fun j i h1 h2=>by have:=(List.getElem?_eq_some_iff.1 h2).1;omega)]
theorem aCm {i:CodeIns}:∀ {l:List CodeIns},i∈l → (i.Op=13 ∨ i.Op=15) → i.B∈onB l
 | e :: l,h,ho=>by
  rw [onB];cases h with
  | head=>rw [if_pos (show iA i=true from decide_eq_true ho)];simp
  | tail _ h=>exact List.mem_append_right _ (aCm h ho)
theorem bgs_in {c:CodeProg} (hb:okB c):(0 ≤ c.Main ∧ c.Main<(c.Code.length:Int)) ∧ (∀ d∈c.Defs,inD c.Code.length d) ∧ ∀ i∈c.Code,inI c.Code.length i:=by
 have h:=(uS hb.1).1 hb
 have hr:∀ b∈bgs c,0 ≤ b ∧ b<(c.Code.length:Int):=fun b hb=>⟨(h.2.1 b hb).1,(h.2.1 b hb).2.1⟩
 refine⟨hr _ (.head _),fun d hd=>⟨fun s hs=>hr _ ?_,fun r h2=>hr _ ?_⟩,fun i hi ho=>(hr _ ?_).2⟩
 ·exact .tail _ (List.mem_append_left _ (List.mem_flatMap.2 ⟨d,hd,List.mem_append_right _ (List.mem_map_of_mem hs)⟩))
 ·exact .tail _ (List.mem_append_left _ (List.mem_flatMap.2 ⟨d,hd,List.mem_append_left _ (List.mem_map_of_mem h2)⟩))
 ·exact .tail _ (List.mem_append_right _ (aCm hi ho))
open Classical in
theorem still_eq {fuel:Nat} {c:CodeProg} (hf:4000000 ≤ fuel) (hl:c.Code.length ≤ 400) (hd:∀ d∈c.Defs,smD d):aAk fuel c=some (decide (iO c ∧ pP c)):=by
 have hno:∀ {r:Option Bool},r=some false → ¬ (iO c ∧ pP c) → r=some (decide (iO c ∧ pP c)):=fun h1 h2=>by rw [h1,decide_eq_false h2]
 rw [aAk]
 by_cases h1:c.Free<0
 ·rw [if_pos h1];exact hno rfl fun g=>by have:=g.1.free;omega
 rw [if_neg h1]
 by_cases h2:12<c.Free
 ·rw [if_pos h2];exact hno rfl fun g=>by have:=g.1.free;omega
 rw [if_neg h2]
 by_cases h3:12<(c.Defs.length:Int)
 ·rw [if_pos h3];exact hno rfl fun g=>by have:=g.1.defs;omega
 rw [if_neg h3]
 by_cases h4:(c.Code.length:Int)<1
 ·rw [if_pos h4];exact hno rfl fun g=>by have:=g.1.code;omega
 rw [if_neg h4]
 by_cases h5:12000<(c.Code.length:Int)
 ·rw [if_pos h5];exact hno rfl fun g=>by have:=g.1.code;omega
 rw [if_neg h5]
 have e1:=rs1 (fuel:=fuel) (c:=c) hf c.Defs [] fuel rfl (by omega) (by simp;omega) hd
 have e2:=rs2 (fuel:=fuel) (c:=c) hf (by omega) fuel 0 (by omega) (by omega)
 simp only [List.length_nil,Int.natCast_zero,Nat.zero_le,true_implies]at e1 e2
 by_cases h6:∀ d∈c.Defs,okD d
 rotate_left
 ·rw [if_neg h6]at e1;refine b1 e1 ?_;exact hno rfl fun g=>h6 fun d hd=>(g.1.okD d hd).1
 rw [if_pos h6]at e1
 refine b1 e1 ?_
 dsimp only
 by_cases h7:∀ (j:Nat) i,c.Code[j]? =some i → okI c.Defs.length c.Code.length j i ∧ dR c.Code j i
 rotate_left
 ·rw [if_neg h7]at e2;refine b1 e2 ?_;exact hno rfl fun g=>h7 fun j i hi=>⟨by have:=(xF.1 g.1.ins.1.1 j i hi).1;rwa [Nat.zero_add]at this,g.2 j i hi⟩
 rw [if_pos h7]at e2
 refine b1 e2 ?_
 dsimp only
 have hsm:=aBb (by omega) hl h6
 have hne:c.Code≠[]:=fun g=>by rw [g]at h4;simp at h4
 refine bb (aGo (c:=c) hf hsm hne) ?_
 by_cases h8:okB c
 rotate_left
 ·rw [decide_eq_false h8,cond_false];exact hno rfl fun g=>h8 g.1.bl
 rw [decide_eq_true h8,cond_true]
 obtain⟨b1',b2,b3⟩:=bgs_in h8
 refine bb (once_eq (c:=c) hf (by omega) (by omega) (fun i hi ho=>by
  obtain⟨j,hj⟩:=List.mem_iff_getElem?.1 hi;have:=(h7 j i hj).1;exact⟨(this.pos (by omega)).1,this.df ho⟩)) ?_
 refine b1 rfl ?_
 congr 1
 rw [decide_eq_decide]
 constructor
 ·rintro⟨g1,g2⟩
  exact⟨⟨by omega,by omega,by omega,b1',fun d hd=>⟨h6 d hd,b2 d hd⟩,⟨⟨xF.2 fun j i hi=>⟨by rw [Nat.zero_add];exact(h7 j i hi).1,b3 i (List.mem_of_getElem? hi)⟩,g1⟩,g2⟩,h8⟩,fun j i hi=>(h7 j i hi).2⟩
 ·rintro⟨g,_⟩
  exact⟨g.ins.1.2,g.ins.2⟩
open Classical in
noncomputable def to1 (f:Ref09_flow) (p:Int × CodeLevel):Ref09_flow:=match f.levels[p.1.toNat]? with
 | none=>f
 | some l'=>if l'.Stack<0 then⟨f.levels.set p.1.toNat p.2,f.wait++[p.1],f.wrong⟩ else ⟨f.levels,f.wait,f.wrong || !decide (l'=p.2)⟩
noncomputable def tos (f:Ref09_flow) (s:List (Int × CodeLevel)):Ref09_flow:=s.foldl to1 f
theorem aEX (f:Ref09_flow) (s t:List (Int × CodeLevel)):tos f (s++t)=tos (tos f s) t:=List.foldl_append
theorem sB (f:Ref09_flow) (p:Int × CodeLevel) (s:List (Int × CodeLevel)):tos f (p :: s)=tos (to1 f p) s:=rfl
theorem rN (f:Ref09_flow) (p:Int × CodeLevel):(to1 f p).levels.length=f.levels.length ∧ (to1 f p).wait.length ≤ f.wait.length+1:=by
 unfold to1
 split
 ·exact⟨rfl,by omega⟩
 ·split <;> simp
theorem xA:∀ (s:List (Int × CodeLevel)) (f:Ref09_flow),(tos f s).levels.length=f.levels.length ∧ (tos f s).wait.length ≤ f.wait.length+s.length
 | [],f=>⟨rfl,by simp [tos]⟩
 | p :: s,f=>by
  have h1:=rN f p;have h2:=xA s (to1 f p);rw [sB,List.length_cons];omega
open Classical in
theorem fY {f:Ref09_flow} {m a b:Int} (hm:0 ≤ m ∧ m<(f.levels.length:Int)) (hw:f.wait.length ≤ 10000000):fF f m a b=some (to1 f (m,⟨a,b⟩)):=by
 have hi:=dU hm.1 hm.2
 have hi2:f.levels[m.toNat]? =some (f.levels[m.toNat]'(by omega)):=List.getElem?_eq_getElem _
 rw [fF,hi,bsm,to1,hi2]
 dsimp only
 generalize f.levels[m.toNat]'(by omega)=l'
 by_cases h:l'.Stack<0
 ·rw [if_pos h,if_pos h,bsm,dP (by simp;omega),bsm]
 ·rw [if_neg h,if_neg h,bsm];cases f.wrong with
  | true=>rfl
  | false=>
   rw [cond_false,Bool.false_or,← Bool.decide_and];congr 3
   rw [decide_eq_decide];exact(aAq (a:=l') (b:=⟨a,b⟩)).symm
def eF (lv:List CodeLevel):FT:=fun m=>if 0 ≤ m then match lv[m.toNat]? with
 | some l=>if l.Stack<0 then none else some l
 | none=>none else none
theorem aC2 {lv:List CodeLevel} {m:Int} {l:CodeLevel} (hm:0 ≤ m ∧ m<(lv.length:Int)) (hl:0 ≤ l.Stack):eF (lv.set m.toNat l)=fup (eF lv) m l:=by
 funext x
 simp only [eF,fup]
 by_cases h0:0 ≤ x
 ·rw [if_pos h0,if_pos h0];by_cases e:x=m
  ·subst e;rw [if_pos rfl,List.getElem?_set_self (by omega)];dsimp only
   rw [if_neg (by omega)]
  ·rw [if_neg e,List.getElem?_set_ne (by omega)]
 ·rw [if_neg h0,if_neg h0,if_neg (by omega)]
theorem aCc:∀ (s:List (Int × CodeLevel)) (f:Ref09_flow),f.wrong=true → (tos f s).wrong=true
 | [],f,h=>h
 | p :: s,f,h=>by
  rw [sB];refine aCc s _ ?_;unfold to1;split
  ·exact h
  ·split
   ·exact h
   ·simp [h]
open Classical in
theorem aAB:∀ (s:List (Int × CodeLevel)) (f:Ref09_flow),f.wrong=false → (∀ p∈s,(0 ≤ p.1 ∧ p.1<(f.levels.length:Int)) ∧ 0 ≤ p.2.Stack) → (match psh (eF f.levels) f.wait s with | none=>(tos f s).wrong=true | some (g,td)=>∃ lv,tos f s=⟨lv,td,false⟩ ∧ eF lv=g ∧ lv.length=f.levels.length)
 | [],f,hw,_=>⟨f.levels,by obtain⟨a,b,c⟩:=f;simp only at hw;subst hw;rfl,rfl,rfl⟩
 | p :: s,f,hw,hr=>by
  obtain⟨h1,h2⟩:=hr p (.head _);have hr':∀ q∈s,(0 ≤ q.1 ∧ q.1<(f.levels.length:Int)) ∧ 0 ≤ q.2.Stack:=fun q hq=>hr q (.tail _ hq)
  have hi2:f.levels[p.1.toNat]? =some (f.levels[p.1.toNat]'(by omega)):=List.getElem?_eq_getElem _
  rw [psh,sB,to1,hi2];dsimp only
  have habs:eF f.levels p.1=if (f.levels[p.1.toNat]'(by omega)).Stack<0 then none else some (f.levels[p.1.toNat]'(by omega)):=by
   unfold eF;rw [if_pos h1.1,hi2]
  rw [habs];generalize f.levels[p.1.toNat]'(by omega)=l'
  by_cases h:l'.Stack<0
  ·rw [if_pos h,if_pos h];dsimp only
   have:=aAB s ⟨f.levels.set p.1.toNat p.2,f.wait++[p.1],f.wrong⟩ hw (fun q hq=>by rw [List.length_set];exact hr' q hq)
   rw [aC2 h1 h2,List.length_set]at this;exact this
  ·rw [if_neg h,if_neg h];dsimp only
   by_cases e:l'=p.2
   ·rw [if_pos e,decide_eq_true e,hw];exact aAB s ⟨f.levels,f.wait,false⟩ rfl hr'
   ·rw [if_neg e,decide_eq_false e];exact aCc s _ (by simp)
theorem rf1 {d:ScopeDef} {a:Int} (suf:List ScopeSpot):∀ (pre:List ScopeSpot) (k:Nat) (f:Ref09_flow),d.Spots=pre++suf → suf.length<k → pre.length+suf.length ≤ 3000000 → f.wait.length+suf.length ≤ 9000000 → (∀ s∈suf,0 ≤ s.Node ∧ s.Node<(f.levels.length:Int)) →
 rI d a k (pre.length:Int) f.levels f.wait f.wrong=some ((tos f (suf.map fun s=>(s.Node,(⟨0,a⟩:CodeLevel)))).levels,(tos f (suf.map fun s=>(s.Node,(⟨0,a⟩:CodeLevel)))).wait,(tos f (suf.map fun s=>(s.Node,(⟨0,a⟩:CodeLevel)))).wrong):=by
 induction suf with
 | nil=>
  intro pre k f h hk _ _ _;obtain _ | k:=k
  ·omega
  rw [rI,h,if_neg (by simp)];rfl
 | cons e suf ih=>
  intro pre k f h hk hB hT hr;obtain _ | k:=k
  ·omega
  simp only [List.length_cons]at hk hB hT;have hl:=rN f (e.Node,⟨0,a⟩);rw [rI,h,if_pos (bU _ _ _),bP,bsm];refine b1 (fY (f:=f) (hr e (.head _)) (by omega)) ?_
  rw [aI (by omega),bsm,bR pre e,List.map_cons,sB];exact ih (pre++[e]) k _ (by rw [h];simp) (by omega) (by simp;omega) (by omega) (fun s hs=>by rw [hl.1];exact hr s (.tail _ hs))
theorem rf3 {d:ScopeDef} {r:ScopeRule} {x:Int} (hx:idx d.Rules x=some r) {n:Nat} (hc:∀ c∈d.Chans,fD n c) {at_:Int} (suf:List Int):∀ (pre pre':List Int) (k:Nat) (acc:Int),r.Joins=pre++suf → eE d.Chans at_ pre' suf → suf.length<k → pre.length+suf.length ≤ 3000000 → 0 ≤ acc ∧ acc+3*(suf.length:Int) ≤ 1000000000 → uF d x k acc (pre.length:Int)=some (acc+eW d.Chans suf):=by
 induction suf with
 | nil=>
  intro pre pre' k acc h _ hk _ _;obtain _ | k:=k
  ·omega
  rw [uF,hx,bsm,h,if_neg (by simp),eW];simp
 | cons e suf ih=>
  intro pre pre' k acc h hj hk hB ha;obtain _ | k:=k
  ·omega
  simp only [List.length_cons]at hk hB ha;obtain⟨⟨j1,j2,⟨c,c1,_⟩,_⟩,hj2⟩:=hj;have hm:=hc c (List.mem_of_getElem? c1);have hm1:=hm.2.2.1;have hm2:=hm.2.2.2;have hix:idx d.Chans e=some c:=by
   have:=eA c1
   rwa [show((e.toNat:Nat):Int)=e by omega]at this
  rw [uF,hx,bsm,h,if_pos (bU _ _ _),bsm,h,bP,bsm,hix,bsm,aI (by omega),bsm,aI (by omega),bsm,bR pre e,ih (pre++[e]) _ k _ (by rw [h];simp) hj2 (by omega) (by simp;omega) (by omega)];simp only [eW,c1];congr 1;omega
theorem rf2 {fuel:Nat} {d:ScopeDef} (hf:4000000 ≤ fuel) (hok:okD d) {a:Int} (ha:0 ≤ a ∧ a ≤ 100000000) (suf:List ScopeRule):∀ (pre:List ScopeRule) (k:Nat) (f:Ref09_flow),d.Rules=pre++suf → suf.length<k → pre.length+suf.length ≤ 3000000 → f.wait.length+suf.length ≤ 9000000 → (∀ r∈suf,0 ≤ r.Node ∧ r.Node<(f.levels.length:Int)) →
 uV fuel d a k (pre.length:Int) f.levels f.wait f.wrong=some (tos f (suf.map fun r=>(r.Node,(⟨0,a+eW d.Chans r.Joins⟩:CodeLevel)))):=by
 induction suf with
 | nil=>
  intro pre k f h hk _ _ _;obtain _ | k:=k
  ·omega
  rw [uV,h,if_neg (by simp)];rfl
 | cons e suf ih=>
  intro pre k f h hk hB hT hr;obtain _ | k:=k
  ·omega
  simp only [List.length_cons]at hk hB hT;have he:=hok.2.2.2.1 e (by rw [h];simp)
  have hl3:=he.1.2.2.2;have hx:idx d.Rules (pre.length:Int)=some e:=by rw [h,bP]
  have e3:=rf3 (d:=d) (r:=e) hx hok.2.1 e.Joins [] [] fuel a rfl he.2 (by omega) (by simp;omega) (by omega)
  have hl:=rN f (e.Node,⟨0,a+eW d.Chans e.Joins⟩);simp only [List.length_nil,Int.natCast_zero]at e3;rw [uV,if_pos (by rw [h];exact bU _ _ _)];refine bb e3 ?_;refine bb hx ?_;refine bb (fY (f:=f) (hr e (.head _)) (by omega)) ?_
  refine b1 rfl ?_;dsimp only
  rw [aI (by omega),bsm,bR pre e,List.map_cons,sB];exact ih (pre++[e]) k _ (by rw [h];simp) (by omega) (by simp;omega) (by omega) (fun s hs=>by rw [hl.1];exact hr s (.tail _ hs))
theorem aFL {fuel:Nat} {d:ScopeDef} (hf:4000000 ≤ fuel) (hok:okD d) {k:Int} (hk:0 ≤ k ∧ k ≤ 10000000) {f:Ref09_flow} (hr:inD f.levels.length d) (ht:f.wait.length ≤ 1000000):aAI fuel f d k=some (tos f (gQ d (k+(d.Chans.length+d.Spots.length:Nat)))):=by
 obtain⟨⟨h1,h2,h3⟩,_⟩:=id hok
 have hl:=xA (d.Spots.map fun s=>(s.Node,(⟨0,k+(d.Chans.length+d.Spots.length:Nat)⟩:CodeLevel))) f
 rw [List.length_map]at hl
 have e1:=rf1 (d:=d) (a:=k+(d.Chans.length+d.Spots.length:Nat)) d.Spots [] fuel f rfl (by omega) (by simp;omega) (by omega) hr.1
 have e2:=rf2 (fuel:=fuel) (d:=d) hf hok (a:=k+(d.Chans.length+d.Spots.length:Nat)) (by omega) d.Rules [] fuel (tos f (d.Spots.map fun s=>(s.Node,(⟨0,k+(d.Chans.length+d.Spots.length:Nat)⟩:CodeLevel)))) rfl (by omega) (by simp;omega) (by omega) (by rw [hl.1];exact hr.2)
 simp only [List.length_nil,Int.natCast_zero]at e1 e2
 rw [aAI,aI (by omega),bsm,aI (by omega),bsm,show k+(d.Chans.length:Int)+(d.Spots.length:Int)=k+(d.Chans.length+d.Spots.length:Nat) by omega]
 refine b1 e1 ?_
 dsimp only
 rw [e2,gQ,aEX]
open Go.SX Go.SW Go.Dt
def isE (op:Int):Prop:=op=13 ∨ op=15 ∨ op=14 ∨ op=11 ∨ op=16
def isS (op:Int):Prop:=op=13 ∨ op=15 ∨ op=2 ∨ op=8
instance {op:Int}:Decidable (isE op):=by unfold isE;infer_instance
instance {op:Int}:Decidable (isS op):=by unfold isS;infer_instance
def gP (op B:Int):Int:=if 3 ≤ op ∧ op ≤ 7 then 2 else if op=9 then 1 else if op=8 then B else 0
def nE (i:CodeIns) (l:CodeLevel):Prop:=l.Stack<gP i.Op i.B ∨ (isE i.Op ∧ 0<l.Stack) ∨ (isS i.Op ∧ l.Slots ≤ i.A) ∨ (i.Op=12 ∧ l.Slots<i.A)
theorem aDA (op B:Int):((zA op).bind fun y4=>bif y4 then some 2 else if op=9 then some 1 else if op=8 then some B else some 0)=some (gP op B):=by
 have h2:zA op=some (decide (3 ≤ op ∧ op ≤ 7)):=by
  rw [zA];by_cases h:3 ≤ op
  ·rw [if_pos h,bsm];simp [h]
  ·rw [if_neg h,bsm];simp [h]
 rw [h2,bsm,gP]
 by_cases h:3 ≤ op ∧ op ≤ 7
 ·rw [decide_eq_true h,cond_true,if_pos h]
 ·rw [decide_eq_false h,cond_false,if_neg h];by_cases h9:op=9
  ·rw [if_pos h9,if_pos h9]
  ·rw [if_neg h9,if_neg h9];by_cases h8:op=8
   ·rw [if_pos h8,if_pos h8]
   ·rw [if_neg h8,if_neg h8]
theorem emp_eq (op:Int):((qE op).bind fun y5=>bif y5 then some true else if op=14 then some true else if op=11 then some true else some (decide (op=16)))=some (decide (isE op)):=by
 rw [aBc,bsm]
 by_cases h:op=13 ∨ op=15
 ·rw [decide_eq_true h,cond_true,decide_eq_true (show isE op by unfold isE;omega)]
 ·rw [decide_eq_false h,cond_false];by_cases h1:op=14
  ·rw [if_pos h1,decide_eq_true (show isE op by unfold isE;omega)]
  ·rw [if_neg h1];by_cases h2:op=11
   ·rw [if_pos h2,decide_eq_true (show isE op by unfold isE;omega)]
   ·rw [if_neg h2];congr 1;rw [decide_eq_decide];unfold isE;omega
theorem slo_eq (op:Int):((qE op).bind fun y6=>bif y6 then some true else if op=2 then some true else some (decide (op=8)))=some (decide (isS op)):=by
 rw [aBc,bsm]
 by_cases h:op=13 ∨ op=15
 ·rw [decide_eq_true h,cond_true,decide_eq_true (show isS op by unfold isS;omega)]
 ·rw [decide_eq_false h,cond_false];by_cases h1:op=2
  ·rw [if_pos h1,decide_eq_true (show isS op by unfold isS;omega)]
  ·rw [if_neg h1];congr 1;rw [decide_eq_decide];unfold isS;omega
theorem grp12 (a:Int):(if a=1 then some (decide (a=1)) else some (decide (a=2)))=some (decide (a=1 ∨ a=2)):=by
 by_cases h:a=1
 ·subst h;rfl
 ·rw [if_neg h];simp [h]
theorem aGC {c:CodeProg} {n:Nat} {i:CodeIns} {l:CodeLevel} (h0:0 ≤ l.Stack) (hb:i.Op=8 → 0 ≤ i.B) (h:nE i l):scI c n i l=none:=by
 unfold nE isE isS at h
 rw [scI]
 by_cases o1:i.Op=1
 ·unfold gP at h;rw [if_neg (by omega),if_neg (by omega),if_neg (by omega)]at h;omega
 rw [if_neg o1]
 by_cases o2:i.Op=2
 ·unfold gP at h;rw [if_neg (by omega),if_neg (by omega),if_neg (by omega)]at h;rw [if_pos o2,if_neg (by omega)]
 rw [if_neg o2]
 by_cases o3:3 ≤ i.Op ∧ i.Op ≤ 7
 ·unfold gP at h;rw [if_pos o3]at h;rw [if_pos o3,if_neg (by omega)]
 rw [if_neg o3]
 by_cases o8:i.Op=8
 ·unfold gP at h;rw [if_neg o3,if_neg (by omega),if_pos o8]at h;rw [if_pos o8,if_neg (by omega)]
 rw [if_neg o8]
 by_cases o9:i.Op=9
 ·unfold gP at h;rw [if_neg o3,if_pos o9]at h;rw [if_pos o9,if_neg (by rintro⟨g,_⟩;omega)]
 unfold gP at h;rw [if_neg o3,if_neg o9,if_neg o8]at h
 rw [if_neg o9]
 by_cases o10:i.Op=10
 ·omega
 rw [if_neg o10]
 by_cases o11:i.Op=11
 ·rw [if_pos o11,if_neg (by omega)]
 rw [if_neg o11]
 by_cases o12:i.Op=12
 ·rw [if_pos o12,if_neg (by omega)]
 rw [if_neg o12]
 by_cases o13:i.Op=13 ∨ i.Op=15
 ·rw [if_pos o13,if_neg (by omega)]
 rw [if_neg o13]
 by_cases o14:i.Op=14
 ·rw [if_pos o14,if_neg (by omega)]
 rw [if_neg o14,if_neg (by omega)]
theorem blk_eq {op S K A need:Int} {E T:Prop} [Decidable E] [Decidable T] {r:Ref09_flow}:
 (if S<need then
  (some r).bind fun r=>some (Sum.inr r)
 else
  bif decide (E)then
   if 0<S then
    (some r).bind fun r=>some (Sum.inr r)
   else
    bif decide (T)then
     if K ≤ A then
      (some r).bind fun r=>some (Sum.inr r)
     else
      if op=12 then
       if K<A then
        (some r).bind fun r=>some (Sum.inr r)
       else
        some (Sum.inl ())
      else
       some (Sum.inl ())
    else
     if op=12 then
      if K<A then
       (some r).bind fun r=>some (Sum.inr r)
      else
       some (Sum.inl ())
     else
      some (Sum.inl ())
  else
   bif decide (T)then
    if K ≤ A then
     (some r).bind fun r=>some (Sum.inr r)
    else
     if op=12 then
      if K<A then
       (some r).bind fun r=>some (Sum.inr r)
      else
       some (Sum.inl ())
     else
      some (Sum.inl ())
   else
    if op=12 then
     if K<A then
      (some r).bind fun r=>some (Sum.inr r)
     else
      some (Sum.inl ())
    else
     some (Sum.inl ()))=some (if S<need ∨ (E ∧ 0<S) ∨ (T ∧ K ≤ A) ∨ (op=12 ∧ K<A)then(Sum.inr r:Unit ⊕ Ref09_flow) else Sum.inl ()):=by
 by_cases h1:S<need
 ·rw [if_pos h1,if_pos (.inl h1)];rfl
 rw [if_neg h1]
 by_cases h2:E <;> by_cases h3:0<S <;> by_cases h4:T <;> by_cases h5:K ≤ A <;> by_cases h6:op=12 <;> by_cases h7:K<A <;> simp [h1,h2,h3,h4,h5,h6,h7]
theorem aFX {fuel:Nat} {f:Ref09_flow} {c:CodeProg} {n:Nat} {i:CodeIns} {l:CodeLevel} (hi:c.Code[n]? =some i) (hl:f.levels[n]? =some l) (h:nE i l):pS fuel f c (n:Int)=some ⟨f.levels,f.wait,true⟩:=by
 rw [pS]
 refine b1 (eA hl) ?_
 refine b1 (eA hl) ?_
 refine b1 (eA hi) ?_
 refine b1 (aDA _ _) ?_
 refine b1 (emp_eq _) ?_
 refine b1 (slo_eq _) ?_
 refine b1 blk_eq ?_
 unfold nE at h
 rw [if_pos h]
theorem from_eq {fuel:Nat} {f:Ref09_flow} {c:CodeProg} {n:Nat} {i:CodeIns} {l:CodeLevel} (hf:4000000 ≤ fuel) (hp:Pre c) (hne:dR c.Code n i) (hi:c.Code[n]? =some i) (hl:f.levels[n]? =some l) (hlen:f.levels.length=c.Code.length)
 (hS:0 ≤ l.Stack ∧ l.Stack ≤ 10000000) (hK:0 ≤ l.Slots ∧ l.Slots ≤ 10000000) (ht:f.wait.length ≤ 100000) (h:¬ nE i l):
 ∃ s s',scI c n i l=some s ∧ (∀ p,p∈s' ↔ p∈s) ∧ pS fuel f c (n:Int)=some (tos f s'):=by
 obtain⟨hok,hin⟩:=hp.okI n i hi
 have hnx:=hp.next hi
 have hn:=(List.getElem?_eq_some_iff.1 hi).1
 have hlen4:=hp.len
 have hj:=hok.jump;have hs8:=hok.send;have h11:=hok.df;have hpos:=hok.pos;have hop:=hok.op
 unfold inI at hin
 have hw:=h
 unfold nE isE isS at hw
 rw [scI,pS]
 have e0:=eA hl
 have e0':=eA hi
 rw [e0,bsm,bsm,e0',bsm,aDA,bsm,emp_eq,bsm,slo_eq,bsm]
 have h':=h
 unfold nE at h'
 rw [blk_eq,if_neg h',bsm]
 dsimp only
 rw [grp12,bsm]
 by_cases o1:i.Op=1
 ·have:=hnx (by omega)
  rw [if_pos o1,decide_eq_true (.inl o1),cond_true];refine⟨_,_,rfl,fun _=>Iff.rfl,?_⟩
  refine b1 (aI (by omega)) ?_
  refine b1 (aI (by omega)) ?_
  refine b1 (fY (f:=f) (by omega) (by omega)) ?_
  rfl
 rw [if_neg o1]
 by_cases o2:i.Op=2
 ·have:=hnx (by omega)
  unfold gP at hw;rw [if_neg (by omega),if_neg (by omega),if_neg (by omega)]at hw;rw [if_pos o2,if_pos (by omega),decide_eq_true (.inr o2),cond_true];refine⟨_,_,rfl,fun _=>Iff.rfl,?_⟩
  refine b1 (aI (by omega)) ?_
  refine b1 (aI (by omega)) ?_
  refine b1 (fY (f:=f) (by omega) (by omega)) ?_
  rfl
 rw [if_neg o2,decide_eq_false (by omega),cond_false]
 by_cases o3:3 ≤ i.Op ∧ i.Op ≤ 7
 ·have:=hnx (by omega)
  unfold gP at hw;rw [if_pos o3]at hw;rw [if_pos o3,if_pos (by omega),if_neg (by omega),if_neg (by omega),if_neg (by omega),if_neg (by omega),if_neg (by omega),grp2,bsm,decide_eq_false (by omega),cond_false,if_neg (by omega),if_neg (by omega)];refine⟨_,_,rfl,fun _=>Iff.rfl,?_⟩
  refine b1 (aI (by omega)) ?_
  refine b1 (aI (by omega)) ?_
  refine b1 (fY (f:=f) (by omega) (by omega)) ?_
  rfl
 rw [if_neg o3]
 by_cases o8:i.Op=8
 ·have:=hnx (by omega)
  have hb:=hs8 o8;unfold gP at hw;rw [if_neg o3,if_neg (by omega),if_pos o8]at hw;rw [if_pos o8,if_pos o8,if_pos (by omega)];refine⟨_,_,rfl,fun _=>Iff.rfl,?_⟩
  refine b1 (aI (by omega)) ?_
  refine b1 (aI (by omega)) ?_
  refine b1 (fY (f:=f) (by omega) (by omega)) ?_
  rfl
 rw [if_neg o8,if_neg o8]
 by_cases o9:i.Op=9
 ·have:=hnx (by omega)
  have hA:=hj (.inl o9);unfold gP at hw;rw [if_neg o3,if_pos o9]at hw;rw [if_pos o9,if_pos o9,if_pos (show 1 ≤ l.Stack ∧ dR c.Code n i from⟨by omega,hne⟩)];refine⟨_,[((n:Int)+1,⟨l.Stack - 1,l.Slots⟩),(i.A,⟨l.Stack - 1,l.Slots⟩)],rfl,fun p=>by simp only [List.mem_cons,List.not_mem_nil,or_false];exact Or.comm,?_⟩
  have h1:=rN f ((n:Int)+1,⟨l.Stack - 1,l.Slots⟩);refine b1 (aI (by omega)) ?_
  refine b1 (aI (by omega)) ?_
  refine b1 (fY (f:=f) (by omega) (by omega)) ?_
  refine b1 (aI (by omega)) ?_
  refine b1 (fY (f:=to1 f ((n:Int)+1,⟨l.Stack - 1,l.Slots⟩)) (by omega) (by omega)) ?_
  rfl
 unfold gP at hw;rw [if_neg o3,if_neg o9,if_neg o8]at hw
 rw [if_neg o9,if_neg o9]
 by_cases o10:i.Op=10
 ·have hA:=hj (.inr o10);rw [if_pos o10,if_pos o10,if_pos hne];refine⟨_,_,rfl,fun _=>Iff.rfl,?_⟩
  refine b1 (fY (f:=f) (by omega) (by omega)) ?_
  rfl
 rw [if_neg o10,if_neg o10]
 by_cases o11:i.Op=11
 ·have:=hnx (by omega)
  have hA:=h11 o11;have hA2:=hpos (by omega)
  have hd:c.Defs[i.A.toNat]? =some (c.Defs[i.A.toNat]'(by omega)):=List.getElem?_eq_getElem _
  have hix:=dU (xs:=c.Defs) hA2.1 hA;have hdm:=List.mem_of_getElem? hd;rw [if_pos o11,if_pos o11,if_pos (by omega),hd,hix];generalize c.Defs[i.A.toNat]'(by omega)=d at hdm
  have hdo:=hp.okD d hdm;have hd3:=hdo.1.1;have h1:=xA (gQ d (l.Slots+(d.Chans.length+d.Spots.length:Nat))) f;simp only [gQ,List.length_append,List.length_map]at h1;refine⟨_,_,rfl,fun _=>Iff.rfl,?_⟩
  refine b1 rfl ?_;refine b1 (aFL (f:=f) hf hdo.1 (by omega) (by rw [hlen];exact hdo.2) (by omega)) ?_
  refine b1 (aI (by omega)) ?_
  refine b1 rfl ?_;refine b1 (aI (by omega)) ?_
  refine b1 rfl ?_;refine b1 (aI (by omega)) ?_
  refine b1 (fY (f:=tos f (gQ d (l.Slots+(d.Chans.length+d.Spots.length:Nat)))) (by unfold gQ;omega) (by unfold gQ;omega)) ?_
  rw [aEX,show l.Slots+(d.Chans.length:Int)+(d.Spots.length:Int)=l.Slots+(d.Chans.length+d.Spots.length:Nat) by omega];rfl
 rw [if_neg o11,if_neg o11]
 by_cases o12:i.Op=12
 ·have:=hnx (by omega)
  rw [if_pos o12,if_pos o12,if_pos (by omega)];refine⟨_,_,rfl,fun _=>Iff.rfl,?_⟩
  refine b1 (aI (by omega)) ?_
  refine b1 (fY (f:=f) (by omega) (by omega)) ?_
  rfl
 rw [if_neg o12,if_neg o12,grp2,bsm]
 by_cases o13:i.Op=13 ∨ i.Op=15
 ·have:=hnx (by omega)
  have hB:=hin o13;have hB2:=hpos (by omega)
  rw [if_pos o13,decide_eq_true o13,cond_true,if_pos (by omega)];refine⟨_,_,rfl,fun _=>Iff.rfl,?_⟩
  have h1:=rN f (i.B,⟨0,l.Slots⟩);refine b1 (fY (f:=f) (by omega) (by omega)) ?_
  refine b1 (aI (by omega)) ?_
  refine b1 (fY (f:=to1 f (i.B,⟨0,l.Slots⟩)) (by omega) (by omega)) ?_
  rfl
 rw [if_neg o13,decide_eq_false o13,cond_false]
 by_cases o14:i.Op=14
 ·have:=hnx (by omega)
  rw [if_pos o14,if_pos o14,if_pos (by omega)];refine⟨_,_,rfl,fun _=>Iff.rfl,?_⟩
  refine b1 (aI (by omega)) ?_
  refine b1 (fY (f:=f) (by omega) (by omega)) ?_
  rfl
 rw [if_neg o14,if_neg o14,if_pos (show l.Stack=0 by omega),if_pos (show i.Op=16 by omega)]
 exact⟨_,_,rfl,fun _=>Iff.rfl,rfl⟩
open Go.SX Go.SW Go.Dt
theorem aAH {lv:List CodeLevel} {m:Int} {l:CodeLevel} (h:eF lv m=some l):0 ≤ m ∧ lv[m.toNat]? =some l ∧ 0 ≤ l.Stack:=by
 unfold eF at h
 split at h
 ·split at h
  ·split at h
   ·cases h
   ·rename_i l' hl hs;cases h;exact⟨by assumption,hl,by omega⟩
  ·cases h
 ·cases h
theorem rstop {fuel:Nat} {c:CodeProg} {k:Nat} {lv:List CodeLevel} {wt:List Int} (hk:0<k):jJ fuel c k lv wt true=some (lv,wt,true):=by
 obtain _ | k:=k
 ·omega
 rw [jJ]
 by_cases h:0<(wt.length:Int)
 ·rw [if_pos h,cond_true]
 ·rw [if_neg h]
theorem rl2 {fuel n:Nat} {c:CodeProg} {a:Int} {l0:CodeLevel} (hf:4000000 ≤ fuel) (hp:Pre c) (hne:pP c) (hn:n=c.Code.length):∀ (k:Nat) (lv:List CodeLevel) (wt:List Int) (B:Int),lv.length=n → LvI (scP c) n a l0 (eF lv) wt B → cnt (eF lv) n+wt.length+1<k → 0 ≤ B → B+1000*((cnt (eF lv) n+wt.length:Nat):Int) ≤ 1000000 →
 (∃ lv' B',jJ fuel c k lv wt false=some (lv',[],false) ∧ lv'.length=n ∧ LvI (scP c) n a l0 (eF lv') [] B') ∨ (∃ lv' wt',jJ fuel c k lv wt false=some (lv',wt',true) ∧ lv'.length=n ∧ Bad (scP c) a l0)
 | 0,_,_,_,_,_,h,_,_=>by omega
 | k+1,lv,wt,B,hk,hI,hm,hB0,hB=>by
  rcases List.eq_nil_or_concat wt with rfl | ⟨wt,m,rfl⟩
  ·exact .inl ⟨lv,B,by rw [jJ,if_neg (by simp)],hk,hI⟩
  ·rw [List.concat_eq_append]at *
   obtain⟨l,hl⟩:=hI.has m (by simp)
   obtain⟨r1,r2,r3,r4⟩:=hI.r m l hl;obtain⟨_,hll,_⟩:=aAH hl;subst hn;have hmn:((m.toNat:Nat):Int)=m:=by omega
   have hi:c.Code[m.toNat]? =some (c.Code[m.toNat]'(by omega)):=List.getElem?_eq_getElem _
   have hlen:=hp.len;have hcl:=oP (eF lv) c.Code.length;simp only [List.length_append,List.length_singleton]at hm hB;have hsc:=qY hi l;have hok:=(hp.okI _ _ hi).1;have hrest:∀ z,pS fuel (⟨lv,wt,false⟩:Ref09_flow) c m=some z → jJ fuel c (k+1) lv (wt++[m]) false=jJ fuel c k z.levels z.wait z.wrong:=fun z hz=>by
    have e1:((wt++[m]).length:Int) - 1=(wt.length:Int):=by simp
    rw [jJ,if_pos (by simp),cond_false,e1];refine b1 (aI (by omega)) ?_
    refine b1 (bP wt [] m) ?_;refine b1 (aI (by omega)) ?_
    refine b1 (xT wt [m]) ?_;exact b1 hz rfl
   by_cases hw:nE (c.Code[m.toNat]'(by omega)) l
   ·have hfo:=aFX (fuel:=fuel) (f:=⟨lv,wt,false⟩) hi hll hw;rw [hmn]at hfo;rw [aGC r3.1 (fun o8=>(hok.send o8).1) hw]at hsc;refine .inr ⟨lv,wt,?_,hk,m,l,r1, .inl hsc⟩;rw [hrest _ hfo];exact rstop (by omega)
   ·obtain⟨s,s',q1,q2,hfo⟩:=from_eq (fuel:=fuel) (f:=⟨lv,wt,false⟩) hf hp (hne _ _ hi) hi hll hk (by omega) (by omega) (by dsimp only;omega) hw
    rw [hmn]at hfo;rw [q1]at hsc;have hsane:=aAw hp;have hrs:∀ p∈s',(0 ≤ p.1 ∧ p.1<(lv.length:Int)) ∧ 0 ≤ p.2.Stack:=fun p hp'=>by
     have:=hsane m l s r2.1 r2.2 r3.1 r4.1 hsc p ((q2 p).1 hp');rw [hk];exact⟨this.1,this.2.1⟩
    have hpp:=aAB s' ⟨lv,wt,false⟩ rfl hrs;have htl:=xA s' ⟨lv,wt,false⟩;dsimp only at hpp htl
    cases hps:psh (eF lv) wt s' with
    | none=>
     rw [hps]at hpp;dsimp only at hpp
     refine .inr ⟨(tos ⟨lv,wt,false⟩ s').levels,(tos ⟨lv,wt,false⟩ s').wait,?_,by rw [htl.1,hk],hI.bad hl hsc q2 hps⟩
     rw [hrest _ hfo,hpp];exact rstop (by omega)
    | some ft=>
     obtain⟨f,td'⟩:=ft;rw [hps]at hpp;obtain⟨lv',p1,p2,p3⟩:=hpp;obtain⟨i1,i2⟩:=hI.step hsane hl hsc q2 hps;subst p2;rw [hrest _ hfo,p1];exact rl2 hf hp hne rfl k lv' td' (B+1000) (by omega) i1 (by omega) (by omega) (by omega)
theorem rl1 {c:CodeProg} (hl:c.Code.length ≤ 2000000):∀ (k n:Nat),n ≤ c.Code.length → c.Code.length - n<k → vG c k (n:Int) (List.replicate n ⟨-1,-1⟩)=some (List.replicate c.Code.length ⟨-1,-1⟩)
 | 0,_,_,hk=>by omega
 | k+1,n,hn,hk=>by
  by_cases h:n<c.Code.length
  ·rw [vG,if_pos (by omega),dP (by simp;omega),bsm,aI (by omega),bsm];have:=rl1 hl k (n+1) (by omega) (by omega)
   rw [List.replicate_succ']at this;rw [show(n:Int)+1=((n+1:Nat):Int) by omega];exact this
  ·have:n=c.Code.length:=by omega
   rw [vG,if_neg (by omega),this]
theorem rl3 (suf:List CodeLevel):∀ (pre:List CodeLevel) (k:Nat) (b:Bool),suf.length<k → pre.length+suf.length ≤ 3000000 → qC (pre++suf) k (pre.length:Int) b=some (b || suf.any fun l=>decide (l.Stack<0)):=by
 induction suf with
 | nil=>
  intro pre k b hk _;obtain _ | k:=k
  ·omega
  rw [qC,if_neg (by simp)];simp
 | cons e suf ih=>
  intro pre k b hk hB;obtain _ | k:=k
  ·omega
  simp only [List.length_cons]at hk hB;rw [qC,if_pos (bU _ _ _)];have hg:∀ b',qC (pre++e :: suf) k (pre.length+1:Int) b'=some (b' || suf.any fun l=>decide (l.Stack<0)):=fun b'=>by
   rw [bR pre e,eY pre suf e];exact ih (pre++[e]) k b' (by omega) (by simp;omega)
  cases b with
  | true=>
   rw [cond_true,bsm,aI (by omega),bsm,hg];rfl
  | false=>
   rw [cond_false,bP];refine bb rfl ?_;rw [bsm,aI (by omega),bsm,hg,List.any_cons,Bool.false_or]
theorem aCe {c:CodeProg} (h:fE c):pP c:=fun n i hi ho=>by
 have hn:=(List.getElem?_eq_some_iff.1 hi).1
 obtain⟨l,hl⟩:=h.2.2 n hn
 refine Classical.byContradiction fun g=>h.2.1 ⟨_,l,hl, .inl ?_⟩
 have hg:¬ dR c.Code n i:=fun q=>g (q ho)
 rw [qY (by simpa using hi)]
 rw [Int.toNat_natCast,scI,if_neg (by omega),if_neg (by omega),if_neg (by omega),if_neg (by omega)]
 by_cases o9:i.Op=9
 ·rw [if_pos o9,if_neg (fun q:1 ≤ l.Stack ∧ dR c.Code n i=>hg q.2)]
 ·rw [if_neg o9,if_pos (by omega),if_neg hg]
open Classical in
theorem aEf {fuel:Nat} {c:CodeProg} (hf:4000000 ≤ fuel) (hl:c.Code.length ≤ 400) (hd:∀ d∈c.Defs,smD d):
 (fE c ∧ ∃ lv,qR fuel c=some (lv,0) ∧ lv.length=c.Code.length ∧ ∀ (i:Nat) l,lv[i]? =some l ↔ R (scP c) c.Main ⟨0,c.Free⟩ (i:Int) l) ∨ (¬ fE c ∧ qR fuel c=some ([],2)):=by
 have e0:=still_eq (fuel:=fuel) hf hl hd
 by_cases h:iO c ∧ pP c
 rotate_left
 ·refine .inr ⟨fun g=>h ⟨g.1,aCe g⟩,?_⟩
  rw [decide_eq_false h]at e0;rw [qR];refine b1 e0 ?_;rw [cond_false]
 rw [decide_eq_true h]at e0
 obtain⟨hb,hne⟩:=h
 have hpre:=hb.pre hl
 have e1:=rl1 (c:=c) (by omega) fuel 0 (by omega) (by omega)
 have e2:=fY (f:=⟨List.replicate c.Code.length ⟨-1,-1⟩,[],false⟩) (m:=c.Main) (a:=0) (b:=c.Free) (by have:=hb.main;simp;omega) (by simp)
 have hmain:=hb.main
 have e2':to1 ⟨List.replicate c.Code.length ⟨-1,-1⟩,[],false⟩ (c.Main,⟨0,c.Free⟩)=⟨(List.replicate c.Code.length (⟨-1,-1⟩:CodeLevel)).set c.Main.toNat ⟨0,c.Free⟩,[c.Main],false⟩:=by
  rw [to1];dsimp only
  rw [List.getElem?_replicate,if_pos (by omega)];rfl
 rw [e2']at e2
 have habs:eF ((List.replicate c.Code.length (⟨-1,-1⟩:CodeLevel)).set c.Main.toNat ⟨0,c.Free⟩)=fup (fun _=>none) c.Main ⟨0,c.Free⟩:=by
  rw [aC2 (by simp;omega) (by simp)];congr 1
  funext x
  unfold eF;split
  ·split
   ·rename_i l hl;rw [List.getElem?_replicate]at hl;split at hl
    ·cases hl;rfl
    ·cases hl
   ·rfl
  ·rfl
 have hst:=start (f:=eF ((List.replicate c.Code.length (⟨-1,-1⟩:CodeLevel)).set c.Main.toNat ⟨0,c.Free⟩)) hb habs
 have hcl:=oP (eF ((List.replicate c.Code.length (⟨-1,-1⟩:CodeLevel)).set c.Main.toNat ⟨0,c.Free⟩)) c.Code.length
 have e3:=rl2 (fuel:=fuel) (n:=c.Code.length) (c:=c) hf hpre hne rfl fuel _ [c.Main] 12 (by simp) hst (by simp only [List.length_singleton];omega) (by omega) (by simp only [List.length_singleton];omega)
 have hgo:∀ lv wt b,jJ fuel c fuel ((List.replicate c.Code.length (⟨-1,-1⟩:CodeLevel)).set c.Main.toNat ⟨0,c.Free⟩) [c.Main] false=some (lv,wt,b) → lv.length=c.Code.length → qR fuel c=bif (b || lv.any fun l=>decide (l.Stack<0))then some ([],2) else some (lv,0):=fun lv wt b h1 h2=>by
  have e4:=rl3 lv [] fuel b (by omega) (by simp;omega)
  rw [qR];refine b1 e0 ?_;rw [cond_true];refine b1 e1 ?_;refine b1 e2 ?_;refine b1 h1 ?_;exact b1 e4 rfl
 rcases e3 with⟨lv,B,e3,hlv,hI⟩ | ⟨lv,wt,e3,hlv,hbad⟩
 ·rw [hgo _ _ _ e3 hlv,Bool.false_or];have hcls:=hI.closed;cases hany:lv.any fun l=>decide (l.Stack<0)with
  | true=>
   refine .inr ⟨fun g=>?_,rfl⟩
   obtain⟨l,hl1,hl2⟩:=List.any_eq_true.1 hany;obtain⟨i,hi⟩:=List.mem_iff_getElem?.1 hl1;have hin:=(List.getElem?_eq_some_iff.1 hi).1;obtain⟨l',hl'⟩:=g.2.2 i (by omega)
   obtain⟨_,q1,q2⟩:=aAH ((hcls _ _).1 hl');rw [Int.toNat_natCast,hi]at q1;cases q1;have:=of_decide_eq_true hl2;omega
  | false=>
   have hall:∀ (i:Nat) l,lv[i]? =some l ↔ eF lv (i:Int)=some l:=fun i l=>by
    constructor
    ·intro hi;have hs:¬ l.Stack<0:=fun g=>by
      have:=List.any_eq_true (p:=fun l:CodeLevel=>decide (l.Stack<0)).2 ⟨l,List.mem_of_getElem? hi,decide_eq_true g⟩
      rw [hany]at this;cases this
     unfold eF;rw [if_pos (by omega),Int.toNat_natCast,hi];dsimp only
     rw [if_neg hs]
    ·intro hi;have:=(aAH hi).2.1
     rwa [Int.toNat_natCast]at this
   refine .inl ⟨⟨hb,hI.good,fun i hi=>⟨lv[i]'(by omega),(hcls _ _).2 ((hall _ _).1 (List.getElem?_eq_getElem _))⟩⟩,lv,rfl,hlv,fun i l=>(hall i l).trans (hcls _ _).symm⟩
 ·rw [hgo _ _ _ e3 hlv];exact .inr ⟨fun g=>g.2.1 hbad,rfl⟩
open Go.SX Go.SW Go.Dt
def cK (v:SolVal):Int:=if v.Kind=1 then v.N else 0
theorem aAF (v:SolVal):nY v=some (cK v):=by
 rw [nY,cK];split <;> rfl
theorem aBy (v:SolVal):tN v=some (cK v):=by
 rw [tN,cK];split <;> rfl
def okV (v:SolVal):Prop:=-1000000000 ≤ cK v ∧ cK v ≤ 1000000000
def sumV (op:Int) (v w:SolVal):SolVal:=
 ⟨1,max (-1000000000) (min 1000000000 (if op=3 then cK v+cK w else if op=4 then cK v - cK w else if op=5 then cK v*cK w else if op=6 then(if cK v<cK w then 1 else 0) else if op=7 then(if cK v=cK w then 1 else 0) else 0))⟩
theorem clamp (x:Int):min (max x (-1000000000)) 1000000000=max (-1000000000) (min 1000000000 x):=by omega
theorem aBN (op:Int) (v w:SolVal):okV (sumV op v w):=by
 unfold okV cK sumV
 rw [if_pos rfl]
 generalize (if op=3 then _ else _:Int)=x
 dsimp only
 omega
theorem mul_ok {a b:Int} (ha:-1000000000 ≤ a ∧ a ≤ 1000000000) (hb:-1000000000 ≤ b ∧ b ≤ 1000000000):-9000000000000000000 ≤ a*b ∧ a*b ≤ 9000000000000000000:=by
 have h:(a*b).natAbs ≤ 1000000000*1000000000:=by
  rw [Int.natAbs_mul];exact Nat.mul_le_mul (by omega) (by omega)
 omega
theorem aFq {op:Int} {v w:SolVal} (hv:okV v) (hw:okV w):tR op v w=some (sumV op v w):=by
 unfold okV at hv hw
 rw [tR]
 refine b1 (aAF v) ?_
 refine b1 (aAF w) ?_
 rw [sumV,← clamp]
 by_cases h3:op=3
 ·rw [if_pos h3,if_pos h3,aI (by omega),bsm,bsm]
 rw [if_neg h3,if_neg h3]
 by_cases h4:op=4
 ·rw [if_pos h4,if_pos h4,aI (by omega),bsm,bsm]
 rw [if_neg h4,if_neg h4]
 by_cases h5:op=5
 ·rw [if_pos h5,if_pos h5,aI (mul_ok hv hw),bsm,bsm]
 rw [if_neg h5,if_neg h5]
 by_cases h6:op=6
 ·rw [if_pos h6,if_pos h6];by_cases g:cK v<cK w
  ·rw [decide_eq_true g,if_pos g];rfl
  ·rw [decide_eq_false g,if_neg g];rfl
 rw [if_neg h6,if_neg h6]
 by_cases h7:op=7
 ·rw [if_pos h7,if_pos h7];by_cases g:cK v=cK w
  ·rw [decide_eq_true g,if_pos g];rfl
  ·rw [decide_eq_false g,if_neg g];rfl
 rw [if_neg h7,if_neg h7];rfl
theorem sum_eq {op:Int} {v w:SolVal} (hv:okV v) (hw:okV w):aAR op v w=some (sumV op v w):=by
 unfold okV at hv hw
 rw [aAR]
 refine b1 (aBy v) ?_
 refine b1 (aBy w) ?_
 rw [sumV]
 by_cases h3:op=3
 ·rw [if_pos h3,if_pos h3,aI (by omega),bsm,bsm]
 rw [if_neg h3,if_neg h3]
 by_cases h4:op=4
 ·rw [if_pos h4,if_pos h4,aI (by omega),bsm,bsm]
 rw [if_neg h4,if_neg h4]
 by_cases h5:op=5
 ·rw [if_pos h5,if_pos h5,aI (mul_ok hv hw),bsm,bsm]
 rw [if_neg h5,if_neg h5]
 by_cases h6:op=6
 ·rw [if_pos h6,if_pos h6];by_cases g:cK v<cK w
  ·rw [if_pos g,if_pos g];rfl
  ·rw [if_neg g,if_neg g];rfl
 rw [if_neg h6,if_neg h6]
 by_cases h7:op=7
 ·rw [if_pos h7,if_pos h7];by_cases g:cK v=cK w
  ·rw [if_pos g,if_pos g];rfl
  ·rw [if_neg g,if_neg g];rfl
 rw [if_neg h7,if_neg h7];rfl
open Go.SX Go.SW Go.Dt
theorem yY {l:List SolVal} (h:l.length ≤ 1000000000):mT l=some l:=by
 rw [mT,List.nil_append,dP h,bsm]
theorem xE {x:aP} {d a n:Int} {vs:List SolVal} (hv:vs.length ≤ 1000000000) (hx:x.acts.length ≤ 100000000):nI x d a n vs=some ⟨x.CodeProg,x.chans,x.spots,x.acts++[⟨d,a,n,vs⟩]⟩:=by
 rw [nI]
 refine b1 (yY hv) ?_
 refine b1 (dP (by simp;omega)) ?_
 rfl
theorem vS {x:cA} {d a n:Int} {vs:List SolVal} (hv:vs.length ≤ 1000000000) (hx:x.acts.length ≤ 100000000):mD x d a n vs=some ⟨x.c,x.chans,x.spots,x.acts++[⟨d,a,n,vs⟩],x.long⟩:=by
 rw [mD,List.nil_append]
 refine b1 (dP hv) ?_
 refine b1 (dP (by simp;omega)) ?_
 rfl
def dF (k:Int):Int → Nat → List SolVal
 | _,0=>[]
 | c,n+1=>⟨k,c⟩ :: dF k (c+1) n
theorem mH (k:Int):∀ (n:Nat) (c:Int),(dF k c n).length=n
 | 0,_=>rfl
 | n+1,c=>by rw [dF,List.length_cons,mH k n]
theorem aAc {k:Int} (hk:k≠1):∀ (n:Nat) (c:Int),∀ v∈dF k c n,okV v
 | 0,_,v,h=>by cases h
 | n+1,c,v,h=>by
  cases h with
  | head=>unfold okV cK;rw [if_neg hk];omega
  | tail _ h=>exact aAc hk n _ v h
theorem made1 {d:ScopeDef} (hd:d.Chans.length ≤ 1000):∀ (n k i:Nat) (e:List SolVal) (c:Int),i+n=d.Chans.length → n<k → e.length+n ≤ 100000000 → 0 ≤ c ∧ c+n ≤ 1000000 → lE d k e (i:Int) c=some (e++dF 3 c n,c+n)
 | n,0,_,_,_,_,hk,_,_=>by omega
 | 0,k+1,i,e,c,h,_,_,_=>by
  rw [lE,if_neg (by omega)];simp [dF]
 | n+1,k+1,i,e,c,h,hk,he,hc=>by
  rw [lE,if_pos (by omega),dP (by simp;omega),bsm,aI (by omega),bsm,aI (by omega),bsm];rw [show(i:Int)+1=((i+1:Nat):Int) by omega];rw [made1 hd n k (i+1) _ (c+1) (by omega) (by omega) (by simp;omega) (by omega)];simp only [dF,List.append_assoc,List.singleton_append,Option.some.injEq,Prod.mk.injEq,true_and];omega
theorem made2 {d:ScopeDef} (hd:d.Spots.length ≤ 1000):∀ (n k i:Nat) (e:List SolVal) (c:Int),i+n=d.Spots.length → n<k → e.length+n ≤ 100000000 → 0 ≤ c ∧ c+n ≤ 1000000 → lU d k e (i:Int) c=some (e++dF 4 c n,c+n)
 | n,0,_,_,_,_,hk,_,_=>by omega
 | 0,k+1,i,e,c,h,_,_,_=>by
  rw [lU,if_neg (by omega)];simp [dF]
 | n+1,k+1,i,e,c,h,hk,he,hc=>by
  rw [lU,if_pos (by omega),dP (by simp;omega),bsm,aI (by omega),bsm,aI (by omega),bsm];rw [show(i:Int)+1=((i+1:Nat):Int) by omega];rw [made2 hd n k (i+1) _ (c+1) (by omega) (by omega) (by simp;omega) (by omega)];simp only [dF,List.append_assoc,List.singleton_append,Option.some.injEq,Prod.mk.injEq,true_and];omega
theorem rdef1 {x:cA} {d:ScopeDef} (hd:d.Chans.length ≤ 1000) (hc:0 ≤ x.chans ∧ x.chans ≤ 1000):∀ (n k i:Nat) (e:List SolVal),i+n=d.Chans.length → n<k → e.length+n ≤ 100000000 → rB x d k e (i:Int)=some (e++dF 3 (x.chans+i) n)
 | n,0,_,_,_,hk,_=>by omega
 | 0,k+1,i,e,h,_,_=>by
  rw [rB,if_neg (by omega)];simp [dF]
 | n+1,k+1,i,e,h,hk,he=>by
  rw [rB,if_pos (by omega),aI (by omega),bsm,dP (by simp;omega),bsm,aI (by omega),bsm];rw [show(i:Int)+1=((i+1:Nat):Int) by omega];rw [rdef1 hd hc n k (i+1) _ (by omega) (by omega) (by simp;omega)];simp only [dF,List.append_assoc,List.singleton_append];rw [show x.chans+((i+1:Nat):Int)=x.chans+i+1 by omega]
theorem rdef2 {x:cA} {d:ScopeDef} (hd:d.Spots.length ≤ 1000) (hc:0 ≤ x.spots ∧ x.spots ≤ 1000):∀ (n k i:Nat) (e:List SolVal),i+n=d.Spots.length → n<k → e.length+n ≤ 100000000 → sO x d k e (i:Int)=some (e++dF 4 (x.spots+i) n)
 | n,0,_,_,_,hk,_=>by omega
 | 0,k+1,i,e,h,_,_=>by
  rw [sO,if_neg (by omega)];simp [dF]
 | n+1,k+1,i,e,h,hk,he=>by
  rw [sO,if_pos (by omega),aI (by omega),bsm,dP (by simp;omega),bsm,aI (by omega),bsm];rw [show(i:Int)+1=((i+1:Nat):Int) by omega];rw [rdef2 hd hc n k (i+1) _ (by omega) (by omega) (by simp;omega)];simp only [dF,List.append_assoc,List.singleton_append];rw [show x.spots+((i+1:Nat):Int)=x.spots+i+1 by omega]
open Go.SX Go.SW Go.Dt
def errL:Value:= .iface 29 (.int .i64 3)
def bY (d:ScopeDef) (c s:Int) (l:List SolVal):List SolVal:=(l++dF 3 c d.Chans.length)++dF 4 s d.Spots.length
theorem pO (d:ScopeDef) (c s:Int) (l:List SolVal):(bY d c s l).length=l.length+(d.Chans.length+d.Spots.length):=by
 simp only [bY,List.length_append,mH];omega
theorem made_eq {fuel:Nat} {x:aP} {d:ScopeDef} {l:List SolVal} (hf:1000 ≤ fuel) (h1:d.Chans.length ≤ 30) (h2:d.Spots.length ≤ 30) (hl:l.length ≤ 1000000) (hc:0 ≤ x.chans ∧ x.chans ≤ 60) (hs:0 ≤ x.spots ∧ x.spots ≤ 24):
 sE fuel x d l=some (if x.chans+d.Chans.length ≤ 60 ∧ x.spots+d.Spots.length ≤ 24 then .inl (⟨x.CodeProg,x.chans+d.Chans.length,x.spots+d.Spots.length,x.acts⟩,bY d x.chans x.spots l) else .inr errL):=by
 have e1:=made1 (d:=d) (by omega) d.Chans.length fuel 0 l x.chans (by omega) (by omega) (by omega) (by omega)
 have e2:=made2 (d:=d) (by omega) d.Spots.length fuel 0 (l++dF 3 x.chans d.Chans.length) x.spots (by omega) (by omega) (by rw [List.length_append,mH];omega) (by omega)
 simp only [Int.natCast_zero]at e1 e2
 rw [sE]
 refine b1 (yY (by omega)) ?_
 refine b1 e1 ?_
 refine b1 e2 ?_
 dsimp only
 by_cases g1:60<x.chans+(d.Chans.length:Int)
 ·rw [if_pos g1,if_neg (by omega)];rfl
 ·rw [if_neg g1];by_cases g2:24<x.spots+(d.Spots.length:Int)
  ·rw [if_pos g2,if_neg (by omega)];rfl
  ·rw [if_neg g2,if_pos ⟨by omega,by omega⟩];rfl
open Go.SX Go.SW Go.Dt
structure St where
 nc:Int
 ns:Int
 ac:List CodeAct
def fH (s:St) (a:CodeAct):St:=⟨s.nc,s.ns,s.ac++[a]⟩
def sends (to:SolVal) (h:Int) (l:List SolVal) (s:St):St:=if to.Kind=2 then fH s ⟨1,h,to.N,l⟩ else if to.Kind=3 then fH s ⟨2,h,to.N,l⟩ else s
instance {v:SolVal}:Decidable (okV v):=by unfold okV;infer_instance
def okC (env stk:List SolVal) (s:St):Prop:=(env.length ≤ 100000 ∧ stk.length ≤ 100000 ∧ s.ac.length ≤ 1000000) ∧ (0 ≤ s.nc ∧ s.nc ≤ 60) ∧ (0 ≤ s.ns ∧ s.ns ≤ 24)
instance {env stk:List SolVal} {s:St}:Decidable (okC env stk s):=by unfold okC;infer_instance
abbrev RF:=Int → Int → List SolVal → List SolVal → St → Option (Option St)
def gV (f:RF):List ScopeSpot → Int → List SolVal → St → Option (Option St)
 | [],_,_,s=>some (some s)
 | p :: l,h,env,s=>(f p.Node h env [] s).bind fun r=>r.elim (some none) fun s'=>gV f l (h+1) env s'
def aL {α:Type} (l:List α):Int:=l.length
def mkS (s:St) (d:ScopeDef) (n h:Int) (env:List SolVal):St:=⟨s.nc+aL d.Chans,s.ns+aL d.Spots,s.ac++[⟨3,h,n,bY d s.nc s.ns env⟩]⟩
def cT (c:CodeProg):Nat → RF
 | 0,_,_,_,_,_=>none
 | n+1,m,h,env,stk,s=>if okC env stk s then(idx c.Code m).bind fun i=>
  if i.Op=1 then cT c n (m+1) h env (stk++[⟨1,i.A⟩]) s
  else if i.Op=2 then(idx env i.A).bind fun v=>cT c n (m+1) h env (stk++[v]) s
  else if i.Op=8 then(idx env i.A).bind fun v=>(slc stk (aL stk - i.B) (aL stk)).bind fun l=>(slc stk 0 (aL stk - i.B)).bind fun t=>cT c n (m+1) h env t (sends v h l s)
  else if i.Op=9 then(idx stk (aL stk - 1)).bind fun v=>(slc stk 0 (aL stk - 1)).bind fun t=>cT c n (if cK v=0 then i.A else m+1) h env t s
  else if i.Op=10 then cT c n i.A h env stk s
  else if i.Op=11 then(idx c.Defs i.A).bind fun d=>if d.Chans.length ≤ 30 ∧ d.Spots.length ≤ 30 then
   if s.nc+aL d.Chans ≤ 60 ∧ s.ns+aL d.Spots ≤ 24 then
    (gV (cT c n) d.Spots s.ns (bY d s.nc s.ns env) (mkS s d i.A h env)).bind fun r=>r.elim (some none) fun s'=>cT c n (m+1) h (bY d s.nc s.ns env) stk s'
   else some none
   else none
  else if i.Op=12 then(slc env 0 i.A).bind fun env'=>cT c n (m+1) h env' stk s
  else if i.Op=13 ∨ i.Op=14 ∨ i.Op=15 then cT c n (m+1) h env stk (fH s ⟨4,h,m,env⟩)
  else if i.Op=16 then some (some s)
  else (idx stk (aL stk - 2)).bind fun v=>(idx stk (aL stk - 1)).bind fun w=>(slc stk 0 (aL stk - 2)).bind fun t=>if okV v ∧ okV w then cT c n (m+1) h env (t++[sumV i.Op v w]) s else none
  else none
open Go.SX Go.SW Go.Dt
theorem R_ok {c:CodeProg} (hp:Pre c) (hb:iO c) {m:Int} {l:CodeLevel} (h:R (scP c) c.Main ⟨0,c.Free⟩ m l):(0 ≤ m ∧ m<(c.Code.length:Int)) ∧ 0 ≤ l.Stack ∧ 0 ≤ l.Slots:=by
 induction h with
 | base=>exact⟨hb.main,by simp,hb.free.1⟩
 | step _ h2 h3 ih=>
  have:=aAw hp _ _ _ ih.1.1 ih.1.2 ih.2.1 ih.2.2 h2 _ h3;exact⟨this.1,this.2.1,this.2.2.2.1⟩
theorem R_at {c:CodeProg} (hp:Pre c) (hF:fE c) {m:Int} {l:CodeLevel} (h:R (scP c) c.Main ⟨0,c.Free⟩ m l):∃ i s,(0 ≤ m ∧ m<(c.Code.length:Int)) ∧ idx c.Code m=some i ∧ c.Code[m.toNat]? =some i ∧ scI c m.toNat i l=some s ∧ ∀ p∈s,R (scP c) c.Main ⟨0,c.Free⟩ p.1 p.2:=by
 obtain⟨h1,_,_⟩:=R_ok hp hF.1 h
 have hi:c.Code[m.toNat]? =some (c.Code[m.toNat]'(by omega)):=List.getElem?_eq_getElem _
 refine⟨c.Code[m.toNat]'(by omega),?_⟩
 cases hs:scI c m.toNat (c.Code[m.toNat]'(by omega)) l with
 | none=>exact absurd ⟨m,l,h, .inl (by rw [qY hi];exact hs)⟩ hF.2.1
 | some s=>exact⟨s,h1,dU h1.1 h1.2,hi,rfl,fun p hp=>h.step (by rw [qY hi];exact hs) hp⟩
theorem aDx {d:ScopeDef} {a b:Int} {l:List SolVal} (h:∀ v∈l,okV v):∀ v∈bY d a b l,okV v:=fun v hv=>by
 rcases List.mem_append.1 hv with hv | hv
 ·rcases List.mem_append.1 hv with hv | hv
  ·exact h v hv
  ·exact aAc (by decide) _ _ v hv
 ·exact aAc (by decide) _ _ v hv
theorem qU {α:Type} {l t:List α} {a b:Int} (h:slc l a b=some t):∀ x∈t,x∈l:=by
 unfold slc at h
 split at h
 ·cases h;exact fun x hx=>List.mem_of_mem_take (List.mem_of_mem_drop hx)
 ·cases h
theorem tH {α:Type} {l:List α} {a b:Int} (h:0 ≤ a ∧ a ≤ b ∧ b ≤ aL l):∃ t,slc l a b=some t ∧ aL t=b - a ∧ ∀ x∈t,x∈l:=by
 unfold aL at *
 have e:slc l a b=some ((l.take b.toNat).drop a.toNat):=by unfold slc;rw [if_pos (by omega)]
 refine⟨_,e,?_,qU e⟩
 simp;omega
theorem sH {α:Type} {l:List α} {a:Int} (h:0 ≤ a ∧ a<aL l):∃ v,idx l a=some v ∧ v∈l:=by
 unfold aL at h
 exact⟨_,dU h.1 h.2,List.getElem_mem _⟩
theorem mQ {α:Type} (l t:List α):aL (l++t)=aL l+aL t:=by simp [aL]
theorem mR {α:Type} (x:α):aL [x]=1:=rfl
theorem aBH {α:Type}:aL ([]:List α)=0:=rfl
theorem aDm (d:ScopeDef) (a b:Int) (l:List SolVal):aL (bY d a b l)=aL l+(aL d.Chans+aL d.Spots):=by
 unfold aL;rw [pO];omega
theorem jZ {α:Type} (l:List α):0 ≤ aL l:=by unfold aL;omega
structure iL (s s':St) (k:Int):Prop where
 a:s.ns ≤ s'.ns
 b:s'.ns ≤ 24
 c:s.nc ≤ s'.nc
 d:s'.nc ≤ 60
 e:aL s'.ac ≤ aL s.ac+k+401*(s'.ns - s.ns)
structure Beg (c:CodeProg) (n:Nat) (m:Int) (env stk:List SolVal) (s:St):Prop where
 r:R (scP c) c.Main ⟨0,c.Free⟩ m ⟨aL stk,aL env⟩
 ve:∀ v∈env,okV v
 vs:∀ v∈stk,okV v
 ls:aL stk ≤ m
 le:aL env ≤ 1000+s.nc+s.ns
 nc:0 ≤ s.nc ∧ s.nc ≤ 60
 ns:0 ≤ s.ns ∧ s.ns ≤ 24
 ac:aL s.ac+(aL c.Code - m)+401*(24 - s.ns) ≤ 100000
 fu:(aL c.Code - m)+402*(24 - s.ns)<(n:Int)
theorem aDT {c:CodeProg} {n:Nat} (hl:aL c.Code ≤ 400) {env:List SolVal} (ih:∀ m h stk s,Beg c n m env stk s → ∃ r,cT c n m h env stk s=some r ∧ ∀ s',r=some s' → iL s s' (aL c.Code - m)) (ve:∀ v∈env,okV v):∀ (l:List ScopeSpot) (h:Int) (s:St),(∀ p∈l,R (scP c) c.Main ⟨0,c.Free⟩ p.Node ⟨0,aL env⟩ ∧ 0 ≤ p.Node) → aL env ≤ 1000+s.nc+s.ns → (0 ≤ s.nc ∧ s.nc ≤ 60) → (0 ≤ s.ns ∧ s.ns ≤ 24) → aL s.ac+401*aL l+401*(24 - s.ns) ≤ 100000 → (l≠[] → 400+402*(24 - s.ns)<(n:Int)) →
 ∃ r,gV (cT c n) l h env s=some r ∧ ∀ s',r=some s' → iL s s' (400*aL l)
 | [],h,s,_,_,hc,hs,_,_=>⟨some s,rfl,fun s' e=>by cases e;exact⟨by omega,by omega,by omega,by omega,by simp [aL]⟩⟩
 | p :: l,h,s,hr,he,hc,hs,ha,hf=>by
  have hl':aL (p :: l)=aL l+1:=by simp [aL]
  have hl0:=jZ l;rw [hl']at ha ⊢;obtain⟨hr1,hr2⟩:=hr p (.head _);have hfu:=hf (by simp)
  obtain⟨r,e1,g1⟩:=ih p.Node h [] s ⟨hr1,ve,(fun v hv=>by cases hv),(by rw [aBH];exact hr2),he,hc,hs,(by omega),(by omega)⟩
  cases r with
  | none=>exact⟨none,by rw [gV,e1,bsm];rfl,fun s' e=>by cases e⟩
  | some s1=>
   have g:=g1 s1 rfl;have ga:=g.a;have gb:=g.b;have gc:=g.c;have gd:=g.d;have ge:=g.e
   obtain⟨r,e2,g2⟩:=aDT hl ih ve l (h+1) s1 (fun q hq=>hr q (.tail _ hq)) (by omega) (by omega) (by omega) (by omega) (fun _=>by omega)
   refine⟨r,by rw [gV,e1,bsm];exact e2,fun s' e=>?_⟩
   have k:=g2 s' e;have ka:=k.a;have kb:=k.b;have kc:=k.c;have kd:=k.d;have ke:=k.e
   exact⟨by omega,by omega,by omega,by omega,by omega⟩
theorem iL.mono {s s':St} {a b:Int} (h:iL s s' a) (k:a ≤ b):iL s s' b:=⟨h.a,h.b,h.c,h.d,by have:=h.e;omega⟩
theorem xY {c:CodeProg} (hp:Pre c) (hF:fE c):∀ (n:Nat) (m h:Int) (env stk:List SolVal) (s:St),Beg c n m env stk s → ∃ r,cT c n m h env stk s=some r ∧ ∀ s',r=some s' → iL s s' (aL c.Code - m)
 | 0,m,_,_,_,_,hB=>by
  have:=hB.fu;have:=hB.ns;have:=(R_ok hp hF.1 hB.r).1
  unfold aL at *;omega
 | n+1,m,h,env,stk,s,hB=>by
  obtain⟨hr,ve,vs,ls,le,nc,ns,ac,fu⟩:=hB;obtain⟨i,S,hm,hi,hi',hS,hR⟩:=R_at hp hF hr;obtain⟨hok,hin⟩:=hp.okI _ i hi';have hj:=hok.jump;have hs8:=hok.send;have h11:=hok.df;have hpos:=hok.pos;have hop:=hok.op
  have hlen:aL c.Code ≤ 400:=by have:=hp.len;unfold aL;omega
  have hm2:m<aL c.Code:=hm.2;have hmn:((m.toNat:Nat):Int)=m:=by omega
  rw [hmn]at hj;have hC:okC env stk s:=by
   refine⟨⟨?_,?_,?_⟩,nc,ns⟩ <;> (unfold aL at *;omega)
  have ls0:=jZ stk;have le0:=jZ env;have la0:=jZ s.ac;rw [cT,if_pos hC,hi,bsm];rw [scI,hmn]at hS;have go:∀ (m':Int) (env' stk':List SolVal) (s1:St),R (scP c) c.Main ⟨0,c.Free⟩ m' ⟨aL stk',aL env'⟩ → (∀ v∈env',okV v) → (∀ v∈stk',okV v) → aL stk' ≤ m' → aL env' ≤ 1000+s1.nc+s1.ns → (0 ≤ s1.nc ∧ s1.nc ≤ 60) → (0 ≤ s1.ns ∧ s1.ns ≤ 24) → m<m' → iL s s1 1 → ∃ r,cT c n m' h env' stk' s1=some r ∧ ∀ s',r=some s' → iL s s' (aL c.Code - m):=fun m' env' stk' s1 a1 a2 a3 a4 a5 a6 a7 a8 a9=>by
   have b1:=a9.a;have b2:=a9.e
   obtain⟨r,e,g⟩:=xY hp hF n m' h env' stk' s1 ⟨a1,a2,a3,a4,a5,a6,a7,by omega,by omega⟩
   refine⟨r,e,fun s' q=>?_⟩
   have k:=g s' q;have ka:=k.a;have kb:=k.b;have kc:=k.c;have kd:=k.d;have ke:=k.e;have:=a9.c
   exact⟨by omega,by omega,by omega,by omega,by omega⟩
  have gs:iL s s 1:=⟨by omega,by omega,by omega,by omega,by omega⟩
  have ga:∀ a,iL s (fH s a) 1:=fun a=>⟨by simp [fH],by simp [fH];omega,by simp [fH],by simp [fH];omega,by simp only [fH,mQ,mR];omega⟩
  by_cases o1:i.Op=1
  ·rw [if_pos o1]at hS ⊢;cases hS
   refine go _ _ _ _ ?_ ve ?_ ?_ le nc ns (by omega) gs
   ·rw [mQ,mR];exact hR _ (.head _)
   ·intro v hv;rcases List.mem_append.1 hv with hv | hv
    ·exact vs v hv
    ·rw [List.mem_singleton.1 hv];exact hok.int o1
   ·rw [mQ,mR];omega
  rw [if_neg o1]at hS ⊢;by_cases o2:i.Op=2
  ·rw [if_pos o2]at hS ⊢;split at hS <;> cases hS
   rename_i g;obtain⟨v,e1,e2⟩:=sH (l:=env) (a:=i.A) ⟨(hpos (by omega)).1,g⟩
   rw [e1,bsm];refine go _ _ _ _ ?_ ve ?_ ?_ le nc ns (by omega) gs
   ·rw [mQ,mR];exact hR _ (.head _)
   ·intro w hw;rcases List.mem_append.1 hw with hw | hw
    ·exact vs w hw
    ·rw [List.mem_singleton.1 hw];exact ve v e2
   ·rw [mQ,mR];omega
  rw [if_neg o2]at hS ⊢;by_cases o3:3 ≤ i.Op ∧ i.Op ≤ 7
  ·rw [if_pos o3]at hS;split at hS <;> cases hS
   rename_i g;dsimp only at g
   rw [if_neg (by omega),if_neg (by omega),if_neg (by omega),if_neg (by omega),if_neg (by omega),if_neg (by omega),if_neg (by omega)];obtain⟨v,e1,e2⟩:=sH (l:=stk) (a:=aL stk - 2) (by omega)
   obtain⟨w,e3,e4⟩:=sH (l:=stk) (a:=aL stk - 1) (by omega)
   obtain⟨t,e5,e6,e7⟩:=tH (l:=stk) (a:=0) (b:=aL stk - 2) (by omega)
   rw [e1,bsm,e3,bsm,e5,bsm,if_pos ⟨vs v e2,vs w e4⟩];refine go _ _ _ _ ?_ ve ?_ ?_ le nc ns (by omega) gs
   ·have:=hR _ (.head _);rw [mQ,mR,e6];dsimp only at this
    rwa [show aL stk - 1=aL stk - 2 - 0+1 by omega]at this
   ·intro x hx;rcases List.mem_append.1 hx with hx | hx
    ·exact vs x (e7 x hx)
    ·rw [List.mem_singleton.1 hx];exact aBN _ _ _
   ·rw [mQ,mR];omega
  rw [if_neg o3]at hS;by_cases o8:i.Op=8
  ·rw [if_pos o8]at hS ⊢;split at hS <;> cases hS
   rename_i g;dsimp only at g
   have hb:=hs8 o8;obtain⟨v,e1,e2⟩:=sH (l:=env) (a:=i.A) ⟨(hpos (by omega)).1,g.1⟩
   obtain⟨l,e3,e4,_⟩:=tH (l:=stk) (a:=aL stk - i.B) (b:=aL stk) (by omega)
   obtain⟨t,e5,e6,e7⟩:=tH (l:=stk) (a:=0) (b:=aL stk - i.B) (by omega)
   rw [e1,bsm,e3,bsm,e5,bsm];have hsd:(sends v h l s).nc=s.nc ∧ (sends v h l s).ns=s.ns ∧ iL s (sends v h l s) 1:=by
    unfold sends;split
    ·exact⟨rfl,rfl,ga _⟩
    ·split
     ·exact⟨rfl,rfl,ga _⟩
     ·exact⟨rfl,rfl,gs⟩
   refine go _ _ _ _ ?_ ve (fun x hx=>vs x (e7 x hx)) (by omega) (by rw [hsd.1,hsd.2.1];exact le) (by rw [hsd.1];exact nc) (by rw [hsd.2.1];exact ns) (by omega) hsd.2.2
   have:=hR _ (.head _);dsimp only at this
   rwa [e6,show aL stk - i.B - 0=aL stk - i.B by omega]
  rw [if_neg o8]at hS ⊢;by_cases o9:i.Op=9
  ·rw [if_pos o9]at hS ⊢;split at hS <;> cases hS
   rename_i g;dsimp only at g
   have hjj:=hj (.inl o9);obtain⟨v,e1,e2⟩:=sH (l:=stk) (a:=aL stk - 1) (by omega)
   obtain⟨t,e5,e6,e7⟩:=tH (l:=stk) (a:=0) (b:=aL stk - 1) (by omega)
   rw [e1,bsm,e5,bsm];have hx:∀ m',m<m' → R (scP c) c.Main ⟨0,c.Free⟩ m' ⟨aL stk - 1,aL env⟩ → ∃ r,cT c n m' h env t s=some r ∧ ∀ s',r=some s' → iL s s' (aL c.Code - m):=fun m' q1 q2=>
    go _ _ _ _ (by rwa [e6,show aL stk - 1 - 0=aL stk - 1 by omega]) ve (fun x hx=>vs x (e7 x hx)) (by omega) le nc ns q1 gs
   by_cases g2:cK v=0
   ·rw [if_pos g2];exact hx _ (by omega) (hR _ (.head _))
   ·rw [if_neg g2];exact hx _ (by omega) (hR _ (.tail _ (.head _)))
  rw [if_neg o9]at hS ⊢;by_cases o10:i.Op=10
  ·rw [if_pos o10]at hS ⊢;split at hS <;> cases hS
   have hjj:=hj (.inr o10);exact go _ _ _ _ (hR _ (.head _)) ve vs (by omega) le nc ns (by omega) gs
  rw [if_neg o10]at hS ⊢;by_cases o11:i.Op=11
  ·rw [if_pos o11]at hS ⊢;split at hS
   rotate_left
   ·cases hS
   rename_i g;dsimp only at g
   have hA:=h11 o11;have hA2:=(hpos (by omega)).1
   have hd:c.Defs[i.A.toNat]? =some (c.Defs[i.A.toNat]'(by omega)):=List.getElem?_eq_getElem _
   have hix:=dU (xs:=c.Defs) hA2 hA;have hdm:=List.mem_of_getElem? hd;rw [hd]at hS;rw [hix,bsm];generalize c.Defs[i.A.toNat]'(by omega)=d at hdm hS
   cases hS;obtain⟨hdo,hdi⟩:=hp.okD d hdm;have hd3:=hdo.1;rw [if_pos ⟨hd3.1,hd3.2.1⟩];by_cases g2:s.nc+aL d.Chans ≤ 60 ∧ s.ns+aL d.Spots ≤ 24
   rotate_left
   ·rw [if_neg g2];exact⟨none,rfl,fun s' e=>by cases e⟩
   rw [if_pos g2];have hk:aL env+((d.Chans.length+d.Spots.length:Nat):Int)=aL (bY d s.nc s.ns env):=by rw [aDm];unfold aL;omega
   dsimp only at hR
   rw [hk]at hR;have hse:=jZ d.Spots;have hce:=jZ d.Chans;have hle:=aDm d s.nc s.ns env;have hac:aL (mkS s d i.A h env).ac=aL s.ac+1:=by simp only [mkS,mQ,mR]
   have hns:(mkS s d i.A h env).ns=s.ns+aL d.Spots:=rfl;have hnc:(mkS s d i.A h env).nc=s.nc+aL d.Chans:=rfl;obtain⟨r,e1,g1⟩:=aDT (c:=c) (n:=n) hlen (env:=bY d s.nc s.ns env) (fun m h stk s hB=>xY hp hF n m h _ stk s hB) (aDx ve) d.Spots s.ns (mkS s d i.A h env)
    (fun p hp=>⟨hR (p.Node,_) (List.mem_append_left _ (List.mem_append_left _ (List.mem_map.2 ⟨p,hp,rfl⟩))),(hdi.1 p hp).1⟩) (by omega) (by omega) (by omega) (by omega) (fun q=>by
     have:0<d.Spots.length:=List.length_pos_iff.2 q;have:1 ≤ aL d.Spots:=by unfold aL;omega
     omega)
   rw [e1,bsm];cases r with
   | none=>exact⟨none,rfl,fun s' e=>by cases e⟩
   | some s2=>
    have q:=g1 s2 rfl;have qa:=q.a;have qb:=q.b;have qc:=q.c;have qd:=q.d;have qe:=q.e
    obtain⟨r,e2,k1⟩:=xY hp hF n (m+1) h (bY d s.nc s.ns env) stk s2 ⟨hR _ (List.mem_append_right _ (.head _)),aDx ve,vs,by omega,by omega,by omega,by omega,by omega,by omega⟩
    refine⟨r,e2,fun s' e=>?_⟩
    have k:=k1 s' e;have ka:=k.a;have kb:=k.b;have kc:=k.c;have kd:=k.d;have ke:=k.e
    exact⟨by omega,by omega,by omega,by omega,by omega⟩
  rw [if_neg o11]at hS ⊢;by_cases o12:i.Op=12
  ·rw [if_pos o12]at hS ⊢;split at hS <;> cases hS
   rename_i g;dsimp only at g
   obtain⟨t,e5,e6,e7⟩:=tH (l:=env) (a:=0) (b:=i.A) ⟨by omega,(hpos (by omega)).1,g⟩
   rw [e5,bsm];refine go _ _ _ _ ?_ (fun x hx=>ve x (e7 x hx)) vs (by omega) (by omega) nc ns (by omega) gs
   have:=hR _ (.head _)
   rwa [e6,show i.A - 0=i.A by omega]
  rw [if_neg o12]at hS ⊢;by_cases o13:i.Op=13 ∨ i.Op=15
  ·rw [if_pos o13]at hS;rw [if_pos (by omega)];split at hS <;> cases hS
   exact go _ _ _ _ (hR _ (.tail _ (.head _))) ve vs (by omega) le nc ns (by omega) (ga _)
  rw [if_neg o13]at hS;by_cases o14:i.Op=14
  ·rw [if_pos o14]at hS;rw [if_pos (by omega)];split at hS <;> cases hS
   exact go _ _ _ _ (hR _ (.head _)) ve vs (by omega) le nc ns (by omega) (ga _)
  rw [if_neg (by omega),if_pos (by omega)];exact⟨some s,rfl,fun s' e=>by cases e;exact gs.mono (by omega)⟩
open Go.SX Go.SW Go.Dt
theorem yV (k:Int):∀ (n:Nat) (c:Int) (i:Nat),i<n → (dF k c n)[i]? =some ⟨k,c+i⟩
 | 0,_,_,h=>by omega
 | n+1,c,0,_=>by rw [dF];simp
 | n+1,c,i+1,h=>by
  rw [dF,List.getElem?_cons_succ,yV k n (c+1) i (by omega)];congr 2;omega
theorem aFB (d:ScopeDef) (a b:Int) (l:List SolVal) (hb:l.length ≤ 100000):slc (bY d a b l) (((bY d a b l).length:Int) - (d.Spots.length:Int)) ((bY d a b l).length:Int)=some (dF 4 b d.Spots.length):=by
 have h:=mH 4 d.Spots.length b
 unfold slc bY
 rw [List.length_append,h,if_pos (by omega)]
 congr 1
 have e:((((l++dF 3 a d.Chans.length).length+d.Spots.length:Nat):Int) - (d.Spots.length:Int)).toNat=(l++dF 3 a d.Chans.length).length:=by omega
 rw [e,List.take_of_length_le (by rw [List.length_append,h];omega),List.drop_left]
theorem wS {α:Type} {l t:List α} {a b:Int} (h:slc l a b=some t):0 ≤ a ∧ a ≤ b ∧ b ≤ l.length ∧ t.length ≤ l.length:=by
 unfold slc at h
 split at h
 ·rename_i g;cases h;simp;omega
 ·cases h
def toP (c:CodeProg):Option St → aP ⊕ Value
 | none=> .inr errL
 | some s=> .inl ⟨c,s.nc,s.ns,s.ac⟩
def toQ (c:CodeProg):Option St → ((Int × List ScopeDef × List CodeIns × Int × Int × Int × List CodeAct) ⊕ ((aP × List SolVal) ⊕ Value))
 | none=> .inr (.inr errL)
 | some s=> .inl (c.Free,c.Defs,c.Code,c.Main,s.nc,s.ns,s.ac)
theorem pdef {c:CodeProg} {n fuel:Nat} {d:ScopeDef} {y2:aP × List SolVal} {b:Int} (hd:d.Spots.length ≤ 30) (ih:∀ m h s r,cT c n m h y2.2 [] s=some r → fT fuel ⟨c,s.nc,s.ns,s.ac⟩ m h y2.2=some (toP c r)) (suf:List ScopeSpot):∀ (pre:List ScopeSpot) (k:Nat) (s:St) (r:Option St),d.Spots=pre++suf → suf.length<k → gV (cT c n) suf (b+pre.length) y2.2 s=some r →
 lB (fT fuel) d y2 (dF 4 b d.Spots.length) k (pre.length:Int) c.Free c.Defs c.Code c.Main s.nc s.ns s.ac=some (toQ c r):=by
 induction suf with
 | nil=>
  intro pre k s r h hk H;obtain _ | k:=k
  ·omega
  cases H;rw [lB,h,if_neg (by simp)];rfl
 | cons e suf ihl=>
  intro pre k s r h hk H;obtain _ | k:=k
  ·omega
  simp only [List.length_cons]at hk;have hlen:pre.length<d.Spots.length:=by rw [h];simp
  have hN:=yV 4 d.Spots.length b pre.length hlen;rw [gV]at H;obtain⟨r1,e1,H⟩:=Option.bind_eq_some_iff.1 H;have e2:=ih e.Node (b+pre.length) s r1 e1;rw [lB,if_pos (by omega)];refine b1 (by rw [h];exact bP _ _ _) ?_
  refine b1 (eA hN) ?_;refine b1 e2 ?_;cases r1 with
  | none=>cases H;rfl
  | some s1=>
   dsimp only [toP];refine b1 (aI (by omega)) ?_
   rw [bR pre e];refine ihl (pre++[e]) k s1 r (by rw [h];simp) (by omega) ?_
   rw [← bR pre e,← Int.add_assoc];exact H
theorem grp3 (a:Int):(if a=13 then some (decide (a=13)) else if a=14 then some (decide (a=14)) else some (decide (a=15)))=some (decide (a=13 ∨ a=14 ∨ a=15)):=by
 by_cases h:a=13
 ·subst h;rfl
 rw [if_neg h]
 by_cases h:a=14
 ·subst h;rfl
 rw [if_neg h]
 congr 1;simp [*]
theorem send_eq {c:CodeProg} {v:SolVal} {h:Int} {l:List SolVal} {s:St} (hl:l.length ≤ 1000000) (ha:s.ac.length ≤ 1000000):tK ⟨c,s.nc,s.ns,s.ac⟩ v h l=some ⟨c,(sends v h l s).nc,(sends v h l s).ns,(sends v h l s).ac⟩:=by
 rw [tK,sends]
 by_cases g:v.Kind=2
 ·rw [if_pos g,if_pos g];exact b1 (xE (x:=⟨c,s.nc,s.ns,s.ac⟩) (by omega) (by dsimp only;omega)) rfl
 rw [if_neg g,if_neg g]
 by_cases g:v.Kind=3
 ·rw [if_pos g,if_pos g];exact b1 (xE (x:=⟨c,s.nc,s.ns,s.ac⟩) (by omega) (by dsimp only;omega)) rfl
 ·rw [if_neg g,if_neg g]
theorem slc_set {α:Type} {l t:List α} {a:Int} {x:α} (h:slc l 0 a=some t) (ha:a<l.length):slc (l.set a.toNat x) 0 (a+1)=some (t++[x]):=by
 unfold slc at *
 split at h
 ·rename_i g;cases h;have hs:(l.set a.toNat x).length=l.length:=List.length_set;rw [if_pos (by omega)];congr 1
  have e:(a+1).toNat=a.toNat+1:=by omega
  rw [e,List.take_add_one];simp only [Int.toNat_zero,List.drop_zero];rw [List.getElem?_set_self (by omega),List.take_set_of_le (Nat.le_refl _)];rfl
 ·cases h
theorem prun {c:CodeProg} (hl:c.Code.length ≤ 400):∀ (n:Nat) (m h:Int) (env stk:List SolVal) (s:St) (r:Option St),cT c n m h env stk s=some r → ∀ (k fuel:Nat),n ≤ k → 3900000+2*n ≤ fuel →
 eU (iU fuel) h k m env stk c.Free c.Defs c.Code c.Main s.nc s.ns s.ac=some (toP c r)
 | 0,_,_,_,_,_,_,H,_,_,_,_=>by cases H
 | n+1,m,h,env,stk,s,r,H,0,fuel,hk,hf=>by omega
 | n+1,m,h,env,stk,s,r,H,k+1,fuel,hk,hf=>by
  rw [cT]at H;by_cases hC:okC env stk s
  rotate_left
  ·rw [if_neg hC]at H;cases H
  rw [if_pos hC]at H;obtain⟨i,hi,H⟩:=Option.bind_eq_some_iff.1 H;obtain⟨⟨hc1,hc2,hc3⟩,hc4,hc5⟩:=hC;have hm:=oU hi;have ih:=fun m env stk s H=>prun hl n m h env stk s r H k fuel (by omega) (by omega)
  rw [eU];refine b1 hi ?_;refine b1 (aI (by omega)) ?_
  by_cases o1:i.Op=1
  ·rw [if_pos o1]at H ⊢;refine b1 (dP (by simp;omega)) ?_
   exact ih _ _ _ _ H
  rw [if_neg o1]at H ⊢;by_cases o2:i.Op=2
  ·rw [if_pos o2]at H ⊢;obtain⟨v,e1,H⟩:=Option.bind_eq_some_iff.1 H;refine b1 e1 ?_;refine b1 (dP (by simp;omega)) ?_
   exact ih _ _ _ _ H
  rw [if_neg o2]at H ⊢;by_cases o8:i.Op=8
  ·rw [if_pos o8]at H ⊢;obtain⟨v,e1,H⟩:=Option.bind_eq_some_iff.1 H;obtain⟨l,e2,H⟩:=Option.bind_eq_some_iff.1 H;obtain⟨t,e3,H⟩:=Option.bind_eq_some_iff.1 H;have k2:=wS e2;unfold aL at *
   refine b1 (aI (by omega)) ?_
   refine b1 e1 ?_;refine b1 e2 ?_;refine b1 (send_eq (c:=c) (s:=s) (by omega) (by omega)) ?_
   refine b1 e3 ?_;exact ih _ _ _ _ H
  rw [if_neg o8]at H ⊢;by_cases o9:i.Op=9
  ·rw [if_pos o9]at H ⊢;obtain⟨v,e1,H⟩:=Option.bind_eq_some_iff.1 H;obtain⟨t,e3,H⟩:=Option.bind_eq_some_iff.1 H;unfold aL at *
   refine b1 (aI (by omega)) ?_
   refine b1 e1 ?_;refine b1 (aI (by omega)) ?_
   refine b1 e3 ?_;refine b1 (aAF v) ?_;by_cases g:cK v=0
   ·rw [if_pos g]at H ⊢;exact ih _ _ _ _ H
   ·rw [if_neg g]at H ⊢;exact ih _ _ _ _ H
  rw [if_neg o9]at H ⊢;by_cases o10:i.Op=10
  ·rw [if_pos o10]at H ⊢;exact ih _ _ _ _ H
  rw [if_neg o10]at H ⊢;by_cases o11:i.Op=11
  ·rw [if_pos o11]at H ⊢;obtain⟨d,e1,H⟩:=Option.bind_eq_some_iff.1 H;by_cases hd:d.Chans.length ≤ 30 ∧ d.Spots.length ≤ 30
   rotate_left
   ·rw [if_neg hd]at H;cases H
   rw [if_pos hd]at H;obtain _ | fuel:=fuel
   ·omega
   have hmade:=made_eq (fuel:=fuel) (x:=⟨c,s.nc,s.ns,s.ac⟩) (d:=d) (l:=env) (by omega) hd.1 hd.2 (by omega) hc4 hc5
   dsimp only at hmade
   by_cases g:s.nc+aL d.Chans ≤ 60 ∧ s.ns+aL d.Spots ≤ 24
   rotate_left
   ·rw [if_neg g]at H;cases H
    have hdef:iU (fuel+1) ⟨c,s.nc,s.ns,s.ac⟩ i.A h env=some (.inr errL):=by
     rw [iU];refine b1 e1 ?_;refine b1 hmade ?_;unfold aL at g;rw [if_neg g]
    exact b1 hdef rfl
   rw [if_pos g]at H;obtain⟨r1,e2,H⟩:=Option.bind_eq_some_iff.1 H;obtain _ | fuel:=fuel
   ·omega
   have hel:=pO d s.nc s.ns env;have hrun:∀ m h' s' r',cT c n m h' (bY d s.nc s.ns env) [] s'=some r' → fT (fuel+1) ⟨c,s'.nc,s'.ns,s'.ac⟩ m h' (bY d s.nc s.ns env)=some (toP c r'):=fun m h' s' r' H'=>by
    rw [fT];refine b1 (yY (by omega)) ?_
    exact prun hl n m h' _ [] s' r' H' fuel fuel (by omega) (by omega)
   have e3:=pdef (c:=c) (n:=n) (fuel:=fuel+1) (d:=d) (y2:=(⟨c,s.nc+(d.Chans.length:Int),s.ns+(d.Spots.length:Int),s.ac⟩,bY d s.nc s.ns env)) (b:=s.ns) hd.2 hrun d.Spots [] (fuel+1) (mkS s d i.A h env) r1 rfl (by omega) (by rw [List.length_nil,Int.natCast_zero,Int.add_zero];exact e2)
   have hdef:iU (fuel+1+1) ⟨c,s.nc,s.ns,s.ac⟩ i.A h env=some (match toP c r1 with | .inl x=> .inl (x,bY d s.nc s.ns env) | .inr v=> .inr v):=by
    rw [iU];refine b1 e1 ?_;refine b1 hmade ?_;unfold aL at g;rw [if_pos g];refine b1 (xE (x:=⟨c,s.nc+(d.Chans.length:Int),s.ns+(d.Spots.length:Int),s.ac⟩) (by dsimp only;omega) (by dsimp only;omega)) ?_
    refine b1 (aI (by dsimp only;omega)) ?_
    refine b1 (aFB d s.nc s.ns env hc1) ?_;refine b1 e3 ?_;cases r1 <;> rfl
   refine b1 hdef ?_;cases r1 with
   | none=>cases H;rfl
   | some s1=>exact ih _ _ _ _ H
  rw [if_neg o11]at H ⊢;by_cases o12:i.Op=12
  ·rw [if_pos o12]at H ⊢;obtain⟨t,e1,H⟩:=Option.bind_eq_some_iff.1 H;refine b1 e1 ?_;exact ih _ _ _ _ H
  rw [if_neg o12]at H ⊢;refine b1 (grp3 i.Op) ?_;by_cases o13:i.Op=13 ∨ i.Op=14 ∨ i.Op=15
  ·rw [if_pos o13]at H;rw [decide_eq_true o13,cond_true];refine b1 (aI (by omega)) ?_
   rw [show m+1 - 1=m by omega];refine b1 (xE (x:=⟨c,s.nc,s.ns,s.ac⟩) (by omega) (by dsimp only;omega)) ?_
   exact ih _ _ _ _ H
  rw [if_neg o13]at H;rw [decide_eq_false o13,cond_false];by_cases o16:i.Op=16
  ·rw [if_pos o16]at H ⊢;cases H;rfl
  rw [if_neg o16]at H ⊢;obtain⟨v,e1,H⟩:=Option.bind_eq_some_iff.1 H;obtain⟨w,e2,H⟩:=Option.bind_eq_some_iff.1 H;obtain⟨t,e3,H⟩:=Option.bind_eq_some_iff.1 H;by_cases g:okV v ∧ okV w
  rotate_left
  ·rw [if_neg g]at H;cases H
  rw [if_pos g]at H;have k1:=oU e1;unfold aL at *
  have e4:(stk.length:Int) - 2+1=(stk.length:Int) - 1:=by omega
  refine b1 (aI (by omega)) ?_
  refine b1 e1 ?_;refine b1 (aI (by omega)) ?_
  refine b1 (by rw [e4];exact e2) ?_
  refine b1 (aFq g.1 g.2) ?_;refine b1 e1 ?_;refine b1 (aI (by omega)) ?_
  refine b1 (slc_set e3 (by omega)) ?_
  exact ih _ _ _ _ H
end Go.Proofs.YtjahnkcjbglnoaaGreatDoor

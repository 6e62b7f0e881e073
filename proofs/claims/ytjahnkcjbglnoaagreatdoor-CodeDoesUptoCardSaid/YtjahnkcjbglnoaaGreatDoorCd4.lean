/- Parts of the proof: lemmas, and the steps through the program. -/
import Derived.Test.YtjahnkcjbglnoaaGreatDoorCd3
set_option linter.unusedVariables false
set_option linter.unusedSimpArgs false
set_option maxRecDepth 100000
set_option maxHeartbeats 2000000
namespace Go.Proofs.YtjahnkcjbglnoaaGreatDoor
open Go.SX Go.SW Go.Dt
attribute [local irreducible] Code.wpIn wpListIn Exit.then Exit.inBlock
def oB (a0:ScopeDef):Nat → Int → Option ((Unit) ⊕ (Bool))
| 0,_=>none
| k+1,x2=>
 if x2<(a0.Chans.length:Int)then
  (idx a0.Chans x2).bind fun y2=>
  if y2.At<0 then
   (some false).bind fun r=>some (Sum.inr r)
  else
   (idx a0.Chans x2).bind fun y3=>
   if (a0.Spots.length:Int)<y3.At then
    (some false).bind fun r=>some (Sum.inr r)
   else
    (idx a0.Chans x2).bind fun y4=>
    if y4.Many<0 then
     (some false).bind fun r=>some (Sum.inr r)
    else
     (idx a0.Chans x2).bind fun y5=>
     if 3<y5.Many then
      (some false).bind fun r=>some (Sum.inr r)
     else
      (chk (x2+1)).bind fun z1=>
      oB a0 k z1
 else
  some (Sum.inl ())
def nW (a0:ScopeDef):Nat → Int → Option ((Unit) ⊕ (Bool))
| 0,_=>none
| k+1,x4=>
 if x4<(a0.Spots.length:Int)then
  (idx a0.Spots x4).bind fun y6=>
  if y6.In<0 then
   (some false).bind fun r=>some (Sum.inr r)
  else
   (idx a0.Spots x4).bind fun y7=>
   if x4<y7.In then
    (some false).bind fun r=>some (Sum.inr r)
   else
    (chk (x4+1)).bind fun z2=>
    nW a0 k z2
 else
  some (Sum.inl ())
def oD (fuel:Nat) (a0:ScopeDef) (y8:ScopeRule):Nat → (List Bool) → Int → Option ((List Bool) ⊕ ((List Bool) ⊕ (Bool)))
| 0,_,_=>none
| k+1,x13,x14=>
 if x14<(y8.Joins.length:Int)then
  (idx y8.Joins x14).bind fun y9=>
  if y9<0 then
   ((some false).bind fun r=>some (Sum.inr r)).bind fun r=>some (Sum.inr r)
  else
   if (a0.Chans.length:Int) ≤ y9 then
    ((some false).bind fun r=>some (Sum.inr r)).bind fun r=>some (Sum.inr r)
   else
    (slc y8.Joins 0 x14).bind fun y10=>
    (rO fuel y10 y9).bind fun y11=>
    bif y11 then
     ((some false).bind fun r=>some (Sum.inr r)).bind fun r=>some (Sum.inr r)
    else
     (idx a0.Chans y9).bind fun y12=>
     if y12.At≠y8.At then
      ((some false).bind fun r=>some (Sum.inr r)).bind fun r=>some (Sum.inr r)
     else
      (idx x13 y9).bind fun y13=>
      (chk (x14+1)).bind fun z3=>
      oD fuel a0 y8 k (x13.set y9.toNat true) z3
 else
  some (Sum.inl x13)
def nD (fuel:Nat) (a0:ScopeDef):Nat → (List Bool) → Int → Option ((List Bool) ⊕ (Bool))
| 0,_,_=>none
| k+1,x8,x9=>
 if x9<(a0.Rules.length:Int)then
  ((idx a0.Rules x9).bind fun y8=>
  if y8.At<0 then
   ((some false).bind fun r=>some (Sum.inr r)).bind fun r=>some (Sum.inr r)
  else
   if (a0.Spots.length:Int)<y8.At then
    ((some false).bind fun r=>some (Sum.inr r)).bind fun r=>some (Sum.inr r)
   else
    if (y8.Joins.length:Int)<1 then
     ((some false).bind fun r=>some (Sum.inr r)).bind fun r=>some (Sum.inr r)
    else
     if 3<(y8.Joins.length:Int)then
      ((some false).bind fun r=>some (Sum.inr r)).bind fun r=>some (Sum.inr r)
     else
      oD fuel a0 y8 fuel x8 0).bind fun o=>match o with
  | Sum.inr r=>some r
  | Sum.inl x10=>
  (chk (x9+1)).bind fun z4=>
  nD fuel a0 k x10 z4
 else
  some (Sum.inl x8)
def lY (x5:List Bool):Nat → Int → Option ((Unit) ⊕ (Bool))
| 0,_=>none
| k+1,x16=>
 if x16<(x5.length:Int)then
  (idx x5 x16).bind fun y14=>
  bif y14 then
   (chk (x16+1)).bind fun z5=>
   lY x5 k z5
  else
   (some false).bind fun r=>some (Sum.inr r)
 else
  some (Sum.inl ())
def vC (fuel:Nat) (a0:ScopeDef):Option (Bool):=
 if 30<(a0.Chans.length:Int)then
  some false
 else
  if 30<(a0.Spots.length:Int)then
   some false
  else
   if 30<(a0.Rules.length:Int)then
    some false
   else
    (mk false (a0.Chans.length:Int)).bind fun y1=>
    (oB a0 fuel 0).bind fun o=>match o with
    | Sum.inr r=>some r
    | Sum.inl _=>
    (nW a0 fuel 0).bind fun o=>match o with
    | Sum.inr r=>some r
    | Sum.inl _=>
    (nD fuel a0 fuel y1 0).bind fun o=>match o with
    | Sum.inr r=>some r
    | Sum.inl x5=>
    (lY x5 fuel 0).bind fun o=>match o with
    | Sum.inr r=>some r
    | Sum.inl _=>
    some true
theorem aFI (fuel:Nat)  (a0:ScopeDef) (r:Bool) (H:vC fuel a0=some r):FnS Tryz.prog 76 [fSt aF a0] [] (aJ r) (fun _=>[]):=by
 unfold vC at H
 refine cD Tryz.func76 rfl Tryz.ntmps76 rfl (fun β=>?_)
 refine Z1 ?_
 refine fP trivial rfl rfl (cG rfl (has rfl) bP) (fun b1=>?_)
 refine Z2 ?_
 refine aL ?_
 refine Z6 ?_
 revert H;refine is (fun c1 H=>?_) fun c1 H=>?_
 refine Yt c1 ?_
 refine Yt c1 ?_
 refine Yt c1 ?_
 refine Yt c1 ?_
 refine Yy (dM rfl hh c1 hh) ?_
 refine Z12 ?_
 cases H
 refine aC [] (by decide) ?_
 exact eB rfl (bV rfl) rfl
 refine Yg c1 (cT 1 rfl hh (fa rfl) rfl) ?_
 refine Yh 0 rfl c1 (cS rfl hh (sc rfl) rfl Ent.rfl) ?_
 refine Yg c1 (jJ rfl hh (us rfl)) ?_
 refine Yg c1 (gU rfl hh hh) ?_
 refine Yy (cE rfl hh c1 hh) ?_
 refine Z1 ?_
 revert H;refine is (fun c2 H=>?_) fun c2 H=>?_
 refine Yt c2 ?_
 refine Yt c2 ?_
 refine Yt c2 ?_
 refine Yt c2 ?_
 refine Yy (dM rfl hh c2 hh) ?_
 refine Z6 ?_
 cases H
 refine aC [] (by decide) ?_
 exact eB rfl (bV rfl) rfl
 refine Yg c2 (cT 2 rfl hh (fa rfl) rfl) ?_
 refine Yh 0 rfl c2 (cS rfl hh (sc rfl) rfl Ent.rfl) ?_
 refine Yg c2 (jJ rfl hh (us rfl)) ?_
 refine Yg c2 (gU rfl hh hh) ?_
 refine Yy (cE rfl hh c2 hh) ?_
 refine Z1 ?_
 revert H;refine is (fun c3 H=>?_) fun c3 H=>?_
 refine dH hh c3 ?_
 refine Z4 ?_
 cases H
 refine aC [] (by decide) ?_
 exact eB rfl (bV rfl) rfl
 refine dG hh c3 ?_
 refine Z6 ?_
 revert H;refine bs fun y1 h1 H=>?_
 refine fP trivial rfl rfl (zD (t:=fW) (z:=false) rfl (has rfl) (et rfl) rfl zR rfl h1) (fun b2=>?_)
 generalize (Value.slice (some ⟨b2,0,none⟩) _ _)=v1
 refine aB 0 rfl (fun hc_v1=>?_)
 refine Z2 ?_
 revert H;refine bs fun o1 H Hr1=>?_
 refine aT (ι:=Unit) (fun i=>o1=Sum.inl ()) (fun i=>[(1,fEq (ptr b1)),(3,fEq v1)]) (fun i=>[aA b1 63 [fSl bG a0.Chans,fSl bQ a0.Spots,fSl bR a0.Rules],aD v1 4 fW y1]) ?_ ?_
 refine Z4 ?_
 refine aC [1,0] (by decide) ?_
 refine iT (ι:=Nat × Int) (fun i=>oB a0 i.1 i.2=_) (fun i=>i.1) (fun i=>[(1,fEq (ptr b1)),(3,fEq v1),(4,fI i.2)]) (fun i=>[aA b1 63 [fSl bG a0.Chans,fSl bQ a0.Spots,fSl bR a0.Rules],aD v1 4 fW y1]) (fuel,0) H (Sc (Sc (Sc aV.nil))) rfl ?_
 clear H;rintro⟨k1,x2⟩ H
 replace H:oB a0 k1 x2=_:=H
 try dsimp only
 obtain _ | k1:=k1
 rw [oB]at H;cases H
 rw [oB]at H
 refine aL ?_
 refine Z7 ?_
 revert H;refine is (fun c4 H=>?_) fun c4 H=>?_
 refine dH hh c4 ?_
 refine Z2 ?_
 refine aL ?_
 refine Z1 ?_
 refine aL ?_
 revert H;refine bs fun y2 h2 H=>?_
 revert H;refine is (fun c5 H=>?_) fun c5 H=>?_
 apply bO (ods:=[_,_,_,_,_,_,_,_,_,_,_,_,_,_,_,_,_,_,_,_,_,_,_,_,_,_,_,_,_,_,_,_,_,_,_,_,_]) 37 0 2 bM rfl rfl rfl
 refine ND ?_
 refine M3 ?_
 intros
 refine My (cO rfl hh hh (el rfl) h2) fun _=>?_
 refine M4 ?_
 intros
 refine Mt c5 fun _=>?_
 refine Mt c5 fun _=>?_
 refine Mt c5 fun _=>?_
 refine Mt c5 fun _=>?_
 refine Mt c5 fun _=>?_
 refine Mt c5 fun _=>?_
 refine Mt c5 fun _=>?_
 refine Mt c5 fun _=>?_
 refine Mt c5 fun _=>?_
 refine Mt c5 fun _=>?_
 refine My (dM rfl hh c5 hh) fun _=>?_
 refine M8 ?_
 intros
 refine M8 ?_
 intros
 refine M2 ?_
 intros
 refine Z12 ?_
 revert H;refine bs fun r1 H e1=>?_
 have e1:=Option.some.inj e1;subst e1;have Hr1:=Option.some.inj Hr1;subst Hr1
 cases H
 refine aC [] (by decide) ?_
 exact eB rfl (bV rfl) rfl
 exact fk
 kernel_rfl
 revert H;refine bs fun y3 h3 H=>?_
 revert H;refine is (fun c6 H=>?_) fun c6 H=>?_
 apply bO (ods:=[_,_,_,_,_,_,_,_,_,_,_,_,_,_,_,_,_,_,_,_,_,_,_,_,_,_,_,_,_,_,_,_,_,_,_,_,_]) 37 0 2 bM rfl rfl rfl
 refine ND ?_
 refine M3 ?_
 intros
 refine My (cO rfl hh hh (el rfl) h2) fun _=>?_
 refine M4 ?_
 intros
 refine Mg c5 (cT 0 rfl hh (fa rfl) rfl) fun _=>?_
 refine fF (od:=odC [0] false (fSl bG a0.Chans) [cV]) (ps:=[0]) (φ:=fSl bG a0.Chans) rfl (fun _=>rfl) ⟨_,_,rfl,rfl,c5⟩ rfl rfl (cS rfl hh (sc rfl) rfl Ent.rfl) (fun _=>?_)
 refine Mg c5 (bT rfl hh) fun _=>?_
 refine Mg c5 (cO rfl hh hh (el rfl) h3) fun _=>?_
 refine Mg c5 (eH (t':=tI) (z:=y3.At) rfl hh (fa rfl) rfl) fun _=>?_
 refine Mg c5 (eZ rfl hh (sc rfl) rfl) fun _=>?_
 refine Mg c5 (cT 1 rfl hh (fa rfl) rfl) fun _=>?_
 refine fF (od:=odC [0] false (fSl bQ a0.Spots) [cV]) (ps:=[0]) (φ:=fSl bQ a0.Spots) rfl (fun _=>rfl) ⟨_,_,rfl,rfl,c5⟩ rfl rfl (cS rfl hh (sc rfl) rfl Ent.rfl) (fun _=>?_)
 refine Mg c5 (jJ rfl hh (us rfl)) fun _=>?_
 refine Mg c5 (gU rfl hh hh) fun _=>?_
 refine My (cE rfl hh c5 hh) fun _=>?_
 refine M1 ?_
 intros
 refine Mt c6 fun _=>?_
 refine Mt c6 fun _=>?_
 refine Mt c6 fun _=>?_
 refine Mt c6 fun _=>?_
 refine Mt c6 fun _=>?_
 refine Mt c6 fun _=>?_
 refine Mt c6 fun _=>?_
 refine My (dM rfl hh c6 hh) fun _=>?_
 refine M8 ?_
 intros
 refine M1 ?_
 intros
 refine Z12 ?_
 revert H;refine bs fun r2 H e2=>?_
 have e2:=Option.some.inj e2;subst e2;have Hr1:=Option.some.inj Hr1;subst Hr1
 cases H
 refine aC [] (by decide) ?_
 exact eB rfl (bV rfl) rfl
 exact fk
 kernel_rfl
 revert H;refine bs fun y4 h4 H=>?_
 revert H;refine is (fun c7 H=>?_) fun c7 H=>?_
 apply bO (ods:=[_,_,_,_,_,_,_,_,_,_,_,_,_,_,_,_,_,_,_,_,_,_,_,_,_,_,_,_,_,_,_,_,_,_,_,_,_]) 37 0 2 bM rfl rfl rfl
 refine ND ?_
 refine M3 ?_
 intros
 refine My (cO rfl hh hh (el rfl) h2) fun _=>?_
 refine M4 ?_
 intros
 refine Mg c5 (cT 0 rfl hh (fa rfl) rfl) fun _=>?_
 refine fF (od:=odC [0] false (fSl bG a0.Chans) [cV]) (ps:=[0]) (φ:=fSl bG a0.Chans) rfl (fun _=>rfl) ⟨_,_,rfl,rfl,c5⟩ rfl rfl (cS rfl hh (sc rfl) rfl Ent.rfl) (fun _=>?_)
 refine Mg c5 (bT rfl hh) fun _=>?_
 refine Mg c5 (cO rfl hh hh (el rfl) h3) fun _=>?_
 refine Mg c5 (eH (t':=tI) (z:=y3.At) rfl hh (fa rfl) rfl) fun _=>?_
 refine Mg c5 (eZ rfl hh (sc rfl) rfl) fun _=>?_
 refine Mg c5 (cT 1 rfl hh (fa rfl) rfl) fun _=>?_
 refine fF (od:=odC [0] false (fSl bQ a0.Spots) [cV]) (ps:=[0]) (φ:=fSl bQ a0.Spots) rfl (fun _=>rfl) ⟨_,_,rfl,rfl,c5⟩ rfl rfl (cS rfl hh (sc rfl) rfl Ent.rfl) (fun _=>?_)
 refine Mg c5 (jJ rfl hh (us rfl)) fun _=>?_
 refine Mg c5 (gU rfl hh hh) fun _=>?_
 refine My (cE rfl hh c5 hh) fun _=>?_
 refine M1 ?_
 intros
 refine Mg c6 (cT 0 rfl hh (fa rfl) rfl) fun _=>?_
 refine fF (od:=odC [0] false (fSl bG a0.Chans) [cV]) (ps:=[0]) (φ:=fSl bG a0.Chans) rfl (fun _=>rfl) ⟨_,_,rfl,rfl,c6⟩ rfl rfl (cS rfl hh (sc rfl) rfl Ent.rfl) (fun _=>?_)
 refine Mg c6 (bT rfl hh) fun _=>?_
 refine Mg c6 (cO rfl hh hh (el rfl) h4) fun _=>?_
 refine Mg c6 (eH (t':=tI) (z:=y4.Many) rfl hh (fa rfl) rfl) fun _=>?_
 refine Mg c6 (eZ rfl hh (sc rfl) rfl) fun _=>?_
 refine Mg c6 (o_lss rfl hh hh) fun _=>?_
 refine My (cE rfl hh c6 hh) fun _=>?_
 refine M1 ?_
 intros
 refine Mt c7 fun _=>?_
 refine Mt c7 fun _=>?_
 refine Mt c7 fun _=>?_
 refine Mt c7 fun _=>?_
 refine Mt c7 fun _=>?_
 refine Mt c7 fun _=>?_
 refine Mt c7 fun _=>?_
 refine My (dM rfl hh c7 hh) fun _=>?_
 refine Z12 ?_
 revert H;refine bs fun r3 H e3=>?_
 have e3:=Option.some.inj e3;subst e3;have Hr1:=Option.some.inj Hr1;subst Hr1
 cases H
 refine aC [] (by decide) ?_
 exact eB rfl (bV rfl) rfl
 exact fk
 kernel_rfl
 revert H;refine bs fun y5 h5 H=>?_
 apply bO (ods:=[_,_,_,_,_,_,_,_,_,_,_,_,_,_,_,_,_,_,_,_,_,_,_,_,_,_,_,_,_,_,_,_,_,_,_,_,_]) 37 0 2 bM rfl rfl rfl
 refine ND ?_
 refine M3 ?_
 intros
 refine My (cO rfl hh hh (el rfl) h2) fun _=>?_
 refine M4 ?_
 intros
 refine Mg c5 (cT 0 rfl hh (fa rfl) rfl) fun _=>?_
 refine fF (od:=odC [0] false (fSl bG a0.Chans) [cV]) (ps:=[0]) (φ:=fSl bG a0.Chans) rfl (fun _=>rfl) ⟨_,_,rfl,rfl,c5⟩ rfl rfl (cS rfl hh (sc rfl) rfl Ent.rfl) (fun _=>?_)
 refine Mg c5 (bT rfl hh) fun _=>?_
 refine Mg c5 (cO rfl hh hh (el rfl) h3) fun _=>?_
 refine Mg c5 (eH (t':=tI) (z:=y3.At) rfl hh (fa rfl) rfl) fun _=>?_
 refine Mg c5 (eZ rfl hh (sc rfl) rfl) fun _=>?_
 refine Mg c5 (cT 1 rfl hh (fa rfl) rfl) fun _=>?_
 refine fF (od:=odC [0] false (fSl bQ a0.Spots) [cV]) (ps:=[0]) (φ:=fSl bQ a0.Spots) rfl (fun _=>rfl) ⟨_,_,rfl,rfl,c5⟩ rfl rfl (cS rfl hh (sc rfl) rfl Ent.rfl) (fun _=>?_)
 refine Mg c5 (jJ rfl hh (us rfl)) fun _=>?_
 refine Mg c5 (gU rfl hh hh) fun _=>?_
 refine My (cE rfl hh c5 hh) fun _=>?_
 refine M1 ?_
 intros
 refine Mg c6 (cT 0 rfl hh (fa rfl) rfl) fun _=>?_
 refine fF (od:=odC [0] false (fSl bG a0.Chans) [cV]) (ps:=[0]) (φ:=fSl bG a0.Chans) rfl (fun _=>rfl) ⟨_,_,rfl,rfl,c6⟩ rfl rfl (cS rfl hh (sc rfl) rfl Ent.rfl) (fun _=>?_)
 refine Mg c6 (bT rfl hh) fun _=>?_
 refine Mg c6 (cO rfl hh hh (el rfl) h4) fun _=>?_
 refine Mg c6 (eH (t':=tI) (z:=y4.Many) rfl hh (fa rfl) rfl) fun _=>?_
 refine Mg c6 (eZ rfl hh (sc rfl) rfl) fun _=>?_
 refine Mg c6 (o_lss rfl hh hh) fun _=>?_
 refine My (cE rfl hh c6 hh) fun _=>?_
 refine M1 ?_
 intros
 refine Mg c7 (cT 0 rfl hh (fa rfl) rfl) fun _=>?_
 refine fF (od:=odC [0] false (fSl bG a0.Chans) [cV]) (ps:=[0]) (φ:=fSl bG a0.Chans) rfl (fun _=>rfl) ⟨_,_,rfl,rfl,c7⟩ rfl rfl (cS rfl hh (sc rfl) rfl Ent.rfl) (fun _=>?_)
 refine Mg c7 (bT rfl hh) fun _=>?_
 refine Mg c7 (cO rfl hh hh (el rfl) h5) fun _=>?_
 refine Mg c7 (eH (t':=tI) (z:=y5.Many) rfl hh (fa rfl) rfl) fun _=>?_
 refine Mg c7 (eZ rfl hh (sc rfl) rfl) fun _=>?_
 refine Mg c7 (gU rfl hh hh) fun _=>?_
 refine My (cE rfl hh c7 hh) fun _=>?_
 refine Z2 ?_
 revert H;refine is (fun c8 H=>?_) fun c8 H=>?_
 refine dH hh c8 ?_
 refine Z9 ?_
 revert H;refine bs fun r4 H e4=>?_
 have e4:=Option.some.inj e4;subst e4;have Hr1:=Option.some.inj Hr1;subst Hr1
 cases H
 refine aC [] (by decide) ?_
 exact eB rfl (bV rfl) rfl
 refine dG hh c8 ?_
 refine Z5 ?_
 revert H;refine bs fun z1 h6 H=>?_
 refine Yy (fX rfl hh hh h6) ?_
 refine Z2 ?_
 exact bB ((k1,z1)) ⟨H,Nat.lt_succ_self _⟩ (Sc (Sc (Sc aV.nil))) rfl
 exact fk
 kernel_rfl
 refine dG hh c4 ?_
 refine Z5 ?_
 exact bB (()) (Option.some.inj H).symm (Sc (Sc aV.nil)) rfl
 clear H;intro i hi;subst o1;have H:=Hr1;clear Hr1;try dsimp only at H
 try dsimp only
 revert H;refine bs fun o2 H Hr2=>?_
 refine aT (ι:=Unit) (fun i=>o2=Sum.inl ()) (fun i=>[(1,fEq (ptr b1)),(3,fEq v1)]) (fun i=>[aA b1 63 [fSl bG a0.Chans,fSl bQ a0.Spots,fSl bR a0.Rules],aD v1 4 fW y1]) ?_ ?_
 refine Z4 ?_
 refine iT (ι:=Nat × Int) (fun i=>nW a0 i.1 i.2=_) (fun i=>i.1) (fun i=>[(1,fEq (ptr b1)),(3,fEq v1),(5,fI i.2)]) (fun i=>[aA b1 63 [fSl bG a0.Chans,fSl bQ a0.Spots,fSl bR a0.Rules],aD v1 4 fW y1]) (fuel,0) H (Sc (Sc (Sc aV.nil))) rfl ?_
 clear H;rintro⟨k2,x4⟩ H
 replace H:nW a0 k2 x4=_:=H
 try dsimp only
 obtain _ | k2:=k2
 rw [nW]at H;cases H
 rw [nW]at H
 refine aL ?_
 refine Z7 ?_
 revert H;refine is (fun c9 H=>?_) fun c9 H=>?_
 refine dH hh c9 ?_
 refine Z2 ?_
 refine aL ?_
 refine Z5 ?_
 revert H;refine bs fun y6 h7 H=>?_
 refine Yy (cO rfl hh hh (el rfl) h7) ?_
 refine Z4 ?_
 revert H;refine is (fun c10 H=>?_) fun c10 H=>?_
 refine Yt c10 ?_
 refine Yt c10 ?_
 refine Yt c10 ?_
 refine Yt c10 ?_
 refine Yt c10 ?_
 refine Yt c10 ?_
 refine Yt c10 ?_
 refine Yt c10 ?_
 refine Yy (dM rfl hh c10 hh) ?_
 refine Z11 ?_
 revert H;refine bs fun r5 H e5=>?_
 have e5:=Option.some.inj e5;subst e5;have Hr2:=Option.some.inj Hr2;subst Hr2
 cases H
 refine aC [] (by decide) ?_
 exact eB rfl (bV rfl) rfl
 refine Yg c10 (cT 1 rfl hh (fa rfl) rfl) ?_
 refine Yh 0 rfl c10 (cS rfl hh (sc rfl) rfl Ent.rfl) ?_
 refine Yg c10 (bT rfl hh) ?_
 revert H;refine bs fun y7 h8 H=>?_
 refine Yg c10 (cO rfl hh hh (el rfl) h8) ?_
 refine Yg c10 (eH (t':=tI) (z:=y7.In) rfl hh (fa rfl) rfl) ?_
 refine Yg c10 (eZ rfl hh (sc rfl) rfl) ?_
 refine Yg c10 (bT rfl hh) ?_
 refine Yg c10 (gU rfl hh hh) ?_
 refine Yy (cE rfl hh c10 hh) ?_
 refine Z1 ?_
 revert H;refine is (fun c11 H=>?_) fun c11 H=>?_
 refine dH hh c11 ?_
 refine Z9 ?_
 revert H;refine bs fun r6 H e6=>?_
 have e6:=Option.some.inj e6;subst e6;have Hr2:=Option.some.inj Hr2;subst Hr2
 cases H
 refine aC [] (by decide) ?_
 exact eB rfl (bV rfl) rfl
 refine dG hh c11 ?_
 refine Z5 ?_
 revert H;refine bs fun z2 h9 H=>?_
 refine Yy (fX rfl hh hh h9) ?_
 refine Z2 ?_
 exact bB ((k2,z2)) ⟨H,Nat.lt_succ_self _⟩ (Sc (Sc (Sc aV.nil))) rfl
 refine dG hh c9 ?_
 refine Z5 ?_
 exact bB (()) (Option.some.inj H).symm (Sc (Sc aV.nil)) rfl
 clear H;intro i hi;subst o2;have H:=Hr2;clear Hr2;try dsimp only at H
 try dsimp only
 revert H;refine bs fun o3 H Hr3=>?_
 refine aT (ι:=List Bool) (fun i=>o3=Sum.inl i) (fun i=>[(3,fEq v1)]) (fun i=>[aA b1 63 [fSl bG a0.Chans,fSl bQ a0.Spots,fSl bR a0.Rules],aD v1 4 fW i]) ?_ ?_
 refine Z4 ?_
 refine iT (ι:=Nat × List Bool × Int) (fun i=>nD fuel a0 i.1 i.2.1 i.2.2=_) (fun i=>i.1) (fun i=>[(1,fEq (ptr b1)),(3,fEq v1),(6,fI i.2.2)]) (fun i=>[aA b1 63 [fSl bG a0.Chans,fSl bQ a0.Spots,fSl bR a0.Rules],aD v1 4 fW i.2.1]) (fuel,y1,0) H (Sc (Sc (Sc aV.nil))) rfl ?_
 clear H;rintro⟨k3,x8,x9⟩ H
 replace H:nD fuel a0 k3 x8 x9=_:=H
 try dsimp only
 obtain _ | k3:=k3
 rw [nD]at H;cases H
 rw [nD]at H
 refine aL ?_
 refine Z7 ?_
 revert H;refine is (fun c12 H=>?_) fun c12 H=>?_
 refine dH hh c12 ?_
 refine Z2 ?_
 revert H;refine bs fun o4 H Hr4=>?_
 refine aT (ι:=List Bool) (fun i=>o4=Sum.inl i) (fun i=>[(1,fEq (ptr b1)),(3,fEq v1),(6,fI x9)]) (fun i=>[aA b1 63 [fSl bG a0.Chans,fSl bQ a0.Spots,fSl bR a0.Rules],aD v1 4 fW i]) ?_ ?_
 refine Z5 ?_
 revert H;refine bs fun y8 h10 H=>?_
 refine Yy (cO rfl hh hh (el rfl) h10) ?_
 refine Z1 ?_
 refine fP trivial rfl rfl (cR rfl zL rfl) (fun b3=>?_)
 refine cW (φs':=[fI y8.At,fSl tI y8.Joins,fI y8.Node]) trivial rfl rfl (has rfl) (has rfl) (aN (aG trivial) (aN (dF) (aN (aG trivial) bZ))) (sz rfl) rfl rfl rfl ?_
 refine Z1 ?_
 refine aL ?_
 refine Z5 ?_
 revert H;refine is (fun c13 H=>?_) fun c13 H=>?_
 refine Yt c13 ?_
 refine Yt c13 ?_
 refine Yt c13 ?_
 refine Yt c13 ?_
 refine Yt c13 ?_
 refine Yt c13 ?_
 refine Yy (dM rfl hh c13 hh) ?_
 refine Z12 ?_
 refine Z8 ?_
 revert H;refine bs fun r7 H e7=>?_
 have e7:=Option.some.inj e7;subst e7;have Hr4:=Option.some.inj Hr4;subst Hr4
 refine Z3 ?_
 revert H;refine bs fun r8 H e8=>?_
 have e8:=Option.some.inj e8;subst e8;have Hr3:=Option.some.inj Hr3;subst Hr3
 cases H
 refine aC [] (by decide) ?_
 exact eB rfl (bV rfl) rfl
 refine Yg c13 (cT 0 rfl hh (fa rfl) rfl) ?_
 refine Yh 0 rfl c13 (cS rfl hh (sc rfl) rfl Ent.rfl) ?_
 refine Yg c13 (cT 1 rfl hh (fa rfl) rfl) ?_
 refine Yh 1 rfl c13 (cS rfl hh (sc rfl) rfl Ent.rfl) ?_
 refine Yg c13 (jJ rfl hh (us rfl)) ?_
 refine Yg c13 (gU rfl hh hh) ?_
 refine Yy (cE rfl hh c13 hh) ?_
 refine Z1 ?_
 revert H;refine is (fun c14 H=>?_) fun c14 H=>?_
 refine Yt c14 ?_
 refine Yt c14 ?_
 refine Yt c14 ?_
 refine Yt c14 ?_
 refine Yy (dM rfl hh c14 hh) ?_
 refine Z12 ?_
 refine Z2 ?_
 revert H;refine bs fun r9 H e9=>?_
 have e9:=Option.some.inj e9;subst e9;have Hr4:=Option.some.inj Hr4;subst Hr4
 refine Z3 ?_
 revert H;refine bs fun r10 H e10=>?_
 have e10:=Option.some.inj e10;subst e10;have Hr3:=Option.some.inj Hr3;subst Hr3
 cases H
 refine aC [] (by decide) ?_
 exact eB rfl (bV rfl) rfl
 refine Yg c14 (cT 1 rfl hh (fa rfl) rfl) ?_
 refine Yh 0 rfl c14 (cS rfl hh (sc rfl) rfl Ent.rfl) ?_
 refine Yg c14 (jJ rfl hh (us rfl)) ?_
 refine Yg c14 (o_lss rfl hh hh) ?_
 refine Yy (cE rfl hh c14 hh) ?_
 refine Z1 ?_
 revert H;refine is (fun c15 H=>?_) fun c15 H=>?_
 refine Yt c15 ?_
 refine Yt c15 ?_
 refine Yt c15 ?_
 refine Yt c15 ?_
 refine Yy (dM rfl hh c15 hh) ?_
 refine Z8 ?_
 revert H;refine bs fun r11 H e11=>?_
 have e11:=Option.some.inj e11;subst e11;have Hr4:=Option.some.inj Hr4;subst Hr4
 refine Z3 ?_
 revert H;refine bs fun r12 H e12=>?_
 have e12:=Option.some.inj e12;subst e12;have Hr3:=Option.some.inj Hr3;subst Hr3
 cases H
 refine aC [] (by decide) ?_
 exact eB rfl (bV rfl) rfl
 refine Yg c15 (cT 1 rfl hh (fa rfl) rfl) ?_
 refine Yh 0 rfl c15 (cS rfl hh (sc rfl) rfl Ent.rfl) ?_
 refine Yg c15 (jJ rfl hh (us rfl)) ?_
 refine Yg c15 (gU rfl hh hh) ?_
 refine Yy (cE rfl hh c15 hh) ?_
 refine Z1 ?_
 revert H;refine is (fun c16 H=>?_) fun c16 H=>?_
 refine dH hh c16 ?_
 refine Z6 ?_
 revert H;refine bs fun r13 H e13=>?_
 have e13:=Option.some.inj e13;subst e13;have Hr4:=Option.some.inj Hr4;subst Hr4
 refine Z3 ?_
 revert H;refine bs fun r14 H e14=>?_
 have e14:=Option.some.inj e14;subst e14;have Hr3:=Option.some.inj Hr3;subst Hr3
 cases H
 refine aC [] (by decide) ?_
 exact eB rfl (bV rfl) rfl
 refine dG hh c16 ?_
 refine Z6 ?_
 refine iT (ι:=Nat × List Bool × Int) (fun i=>oD fuel a0 y8 i.1 i.2.1 i.2.2=_) (fun i=>i.1) (fun i=>[(1,fEq (ptr b1)),(3,fEq v1),(6,fI x9),(7,fEq (ptr b3)),(8,fI i.2.2)]) (fun i=>[aA b3 114 [fI y8.At,fSl tI y8.Joins,fI y8.Node],aA b1 63 [fSl bG a0.Chans,fSl bQ a0.Spots,fSl bR a0.Rules],aD v1 4 fW i.2.1]) (fuel,x8,0) H (Sc (Sc (Sc (Sc (Sc aV.nil))))) rfl ?_
 clear H;rintro⟨k4,x13,x14⟩ H
 replace H:oD fuel a0 y8 k4 x13 x14=_:=H
 try dsimp only
 obtain _ | k4:=k4
 rw [oD]at H;cases H
 rw [oD]at H
 refine aL ?_
 refine Z7 ?_
 revert H;refine is (fun c17 H=>?_) fun c17 H=>?_
 refine dH hh c17 ?_
 refine Z2 ?_
 refine aL ?_
 refine Z5 ?_
 revert H;refine bs fun y9 h11 H=>?_
 refine Yy (cO rfl hh hh (el rfl) h11) ?_
 refine Z3 ?_
 refine aL ?_
 refine aL ?_
 revert H;refine is (fun c18 H=>?_) fun c18 H=>?_
 apply bO (ods:=[_,_,_,_,_,_,_,_,_,_,_,_,_,_,_,_,_,_,_,_,_,_,_,_,_,_,_,_]) 28 0 3 bM rfl rfl rfl
 refine ND ?_
 refine M3 ?_
 intros
 refine Mt c18 fun _=>?_
 refine Mt c18 fun _=>?_
 refine Mt c18 fun _=>?_
 refine Mt c18 fun _=>?_
 refine Mt c18 fun _=>?_
 refine My (dM rfl hh c18 hh) fun _=>?_
 refine M8 ?_
 intros
 refine M8 ?_
 intros
 refine M3 ?_
 intros
 refine Z12 ?_
 refine Z1 ?_
 revert H;refine bs fun r15 H e15=>?_
 have e15:=Option.some.inj e15;subst e15;have Hr4:=Option.some.inj Hr4;subst Hr4
 refine Z3 ?_
 revert H;refine bs fun r16 H e16=>?_
 have e16:=Option.some.inj e16;subst e16;have Hr3:=Option.some.inj Hr3;subst Hr3
 cases H
 refine aC [] (by decide) ?_
 exact eB rfl (bV rfl) rfl
 exact fk
 kernel_rfl
 revert H;refine is (fun c19 H=>?_) fun c19 H=>?_
 apply bO (ods:=[_,_,_,_,_,_,_,_,_,_,_,_,_,_,_,_,_,_,_,_,_,_,_,_,_,_,_,_]) 28 0 3 bM rfl rfl rfl
 refine ND ?_
 refine M3 ?_
 intros
 refine Mg c18 (bT rfl hh) fun _=>?_
 refine Mg c18 (cT 0 rfl hh (fa rfl) rfl) fun _=>?_
 refine fF (od:=odC [1] false (fSl bG a0.Chans) [cV]) (ps:=[1]) (φ:=fSl bG a0.Chans) rfl (fun _=>rfl) ⟨_,_,rfl,rfl,c18⟩ rfl rfl (cS rfl hh (sc rfl) rfl Ent.rfl) (fun _=>?_)
 refine Mg c18 (jJ rfl hh (us rfl)) fun _=>?_
 refine Mg c18 (sV rfl hh hh) fun _=>?_
 refine My (cE rfl hh c18 hh) fun _=>?_
 refine M1 ?_
 intros
 refine Mt c19 fun _=>?_
 refine Mt c19 fun _=>?_
 refine Mt c19 fun _=>?_
 refine Mt c19 fun _=>?_
 refine Mt c19 fun _=>?_
 refine Mt c19 fun _=>?_
 refine My (dM rfl hh c19 hh) fun _=>?_
 refine M8 ?_
 intros
 refine M3 ?_
 intros
 refine Z12 ?_
 refine Z1 ?_
 revert H;refine bs fun r17 H e17=>?_
 have e17:=Option.some.inj e17;subst e17;have Hr4:=Option.some.inj Hr4;subst Hr4
 refine Z3 ?_
 revert H;refine bs fun r18 H e18=>?_
 have e18:=Option.some.inj e18;subst e18;have Hr3:=Option.some.inj Hr3;subst Hr3
 cases H
 refine aC [] (by decide) ?_
 exact eB rfl (bV rfl) rfl
 exact fk
 kernel_rfl
 revert H;refine bs fun y10 h12 H=>?_
 revert H;refine bs fun y11 h13 H=>?_
 revert H;refine cs (fun c20 H=>?_) fun c20 H=>?_
 apply bO (ods:=[_,_,_,_,_,_,_,_,_,_,_,_,_,_,_,_,_,_,_,_,_,_,_,_,_,_,_,_]) 28 0 3 bM rfl rfl rfl
 refine ND ?_
 refine M3 ?_
 intros
 refine Mg c18 (bT rfl hh) fun _=>?_
 refine Mg c18 (cT 0 rfl hh (fa rfl) rfl) fun _=>?_
 refine fF (od:=odC [1] false (fSl bG a0.Chans) [cV]) (ps:=[1]) (φ:=fSl bG a0.Chans) rfl (fun _=>rfl) ⟨_,_,rfl,rfl,c18⟩ rfl rfl (cS rfl hh (sc rfl) rfl Ent.rfl) (fun _=>?_)
 refine Mg c18 (jJ rfl hh (us rfl)) fun _=>?_
 refine Mg c18 (sV rfl hh hh) fun _=>?_
 refine My (cE rfl hh c18 hh) fun _=>?_
 refine M1 ?_
 intros
 refine Mg c19 (cT 1 rfl hh (fa rfl) rfl) fun _=>?_
 refine fF (od:=odC [0] false (fSl tI y8.Joins) [cV]) (ps:=[0]) (φ:=fSl tI y8.Joins) rfl (fun _=>rfl) ⟨_,_,rfl,rfl,c19⟩ rfl rfl (cS rfl hh (sc rfl) rfl Ent.rfl) (fun _=>?_)
 refine Mg c19 (bT rfl hh) fun _=>?_
 refine Mg c19 (rN (t:=tI) rfl hh nH (mH hh) (el rfl) h12) fun _=>?_
 refine Mg c19 (bT rfl hh) fun _=>?_
 refine sW (od:=odC [] true (aJ y11) []) (Φ:=aJ y11) rfl (fun _=>rfl) ⟨_,_,rfl,rfl,c19⟩ rfl rfl (has rfl) (aE.cons (has rfl) (aE.cons (has rfl) aE.nil)) rfl (cb rfl) (lI fuel y10 y9 y11 h13) (fun _=>?_)
 refine My (cE rfl hh c19 hh) fun _=>?_
 refine M1 ?_
 intros
 refine Mt c20 fun _=>?_
 refine Mt c20 fun _=>?_
 refine Mt c20 fun _=>?_
 refine Mt c20 fun _=>?_
 refine Mt c20 fun _=>?_
 refine Mt c20 fun _=>?_
 refine Mt c20 fun _=>?_
 refine Mt c20 fun _=>?_
 refine Mt c20 fun _=>?_
 refine My (dM rfl hh c20 hh) fun _=>?_
 refine Z12 ?_
 refine Z1 ?_
 revert H;refine bs fun r19 H e19=>?_
 have e19:=Option.some.inj e19;subst e19;have Hr4:=Option.some.inj Hr4;subst Hr4
 refine Z3 ?_
 revert H;refine bs fun r20 H e20=>?_
 have e20:=Option.some.inj e20;subst e20;have Hr3:=Option.some.inj Hr3;subst Hr3
 cases H
 refine aC [] (by decide) ?_
 exact eB rfl (bV rfl) rfl
 exact fk
 kernel_rfl
 revert H;refine bs fun y12 h14 H=>?_
 apply bO (ods:=[_,_,_,_,_,_,_,_,_,_,_,_,_,_,_,_,_,_,_,_,_,_,_,_,_,_,_,_]) 28 0 3 bM rfl rfl rfl
 refine ND ?_
 refine M3 ?_
 intros
 refine Mg c18 (bT rfl hh) fun _=>?_
 refine Mg c18 (cT 0 rfl hh (fa rfl) rfl) fun _=>?_
 refine fF (od:=odC [1] false (fSl bG a0.Chans) [cV]) (ps:=[1]) (φ:=fSl bG a0.Chans) rfl (fun _=>rfl) ⟨_,_,rfl,rfl,c18⟩ rfl rfl (cS rfl hh (sc rfl) rfl Ent.rfl) (fun _=>?_)
 refine Mg c18 (jJ rfl hh (us rfl)) fun _=>?_
 refine Mg c18 (sV rfl hh hh) fun _=>?_
 refine My (cE rfl hh c18 hh) fun _=>?_
 refine M1 ?_
 intros
 refine Mg c19 (cT 1 rfl hh (fa rfl) rfl) fun _=>?_
 refine fF (od:=odC [0] false (fSl tI y8.Joins) [cV]) (ps:=[0]) (φ:=fSl tI y8.Joins) rfl (fun _=>rfl) ⟨_,_,rfl,rfl,c19⟩ rfl rfl (cS rfl hh (sc rfl) rfl Ent.rfl) (fun _=>?_)
 refine Mg c19 (bT rfl hh) fun _=>?_
 refine Mg c19 (rN (t:=tI) rfl hh nH (mH hh) (el rfl) h12) fun _=>?_
 refine Mg c19 (bT rfl hh) fun _=>?_
 refine sW (od:=odC [] true (aJ y11) []) (Φ:=aJ y11) rfl (fun _=>rfl) ⟨_,_,rfl,rfl,c19⟩ rfl rfl (has rfl) (aE.cons (has rfl) (aE.cons (has rfl) aE.nil)) rfl (cb rfl) (lI fuel y10 y9 y11 h13) (fun _=>?_)
 refine My (cE rfl hh c19 hh) fun _=>?_
 refine M1 ?_
 intros
 refine Mg c20 (cT 0 rfl hh (fa rfl) rfl) fun _=>?_
 refine fF (od:=odC [1] false (fSl bG a0.Chans) [cV]) (ps:=[1]) (φ:=fSl bG a0.Chans) rfl (fun _=>rfl) ⟨_,_,rfl,rfl,c20⟩ rfl rfl (cS rfl hh (sc rfl) rfl Ent.rfl) (fun _=>?_)
 refine Mg c20 (bT rfl hh) fun _=>?_
 refine Mg c20 (cO rfl hh hh (el rfl) h14) fun _=>?_
 refine Mg c20 (eH (t':=tI) (z:=y12.At) rfl hh (fa rfl) rfl) fun _=>?_
 refine Mg c20 (eZ rfl hh (sc rfl) rfl) fun _=>?_
 refine Mg c20 (cT 0 rfl hh (fa rfl) rfl) fun _=>?_
 refine fF (od:=odC [0] false (fI y8.At) [cV]) (ps:=[0]) (φ:=fI y8.At) rfl (fun _=>rfl) ⟨_,_,rfl,rfl,c20⟩ rfl rfl (cS rfl hh (sc rfl) rfl Ent.rfl) (fun _=>?_)
 refine Mg c20 (qN rfl hh hh) fun _=>?_
 refine My (cE rfl hh c20 hh) fun _=>?_
 refine Z2 ?_
 revert H;refine is (fun c21 H=>?_) fun c21 H=>?_
 refine dH hh c21 ?_
 refine Z10 ?_
 revert H;refine bs fun r21 H e21=>?_
 have e21:=Option.some.inj e21;subst e21;have Hr4:=Option.some.inj Hr4;subst Hr4
 refine Z3 ?_
 revert H;refine bs fun r22 H e22=>?_
 have e22:=Option.some.inj e22;subst e22;have Hr3:=Option.some.inj Hr3;subst Hr3
 cases H
 refine aC [] (by decide) ?_
 exact eB rfl (bV rfl) rfl
 refine dG hh c21 ?_
 refine Z5 ?_
 revert H;refine bs fun y13 h15 H=>?_
 refine Yo 2 rfl (tK rfl hh hh (el rfl) h15) ?_
 refine aO ?_
 refine aAe (z':=true) trivial rfl rfl rfl (has rfl) (has rfl) (aG trivial) (sz rfl) (cU h15) rfl rfl ?_
 refine Z5 ?_
 revert H;refine bs fun z3 h16 H=>?_
 refine Yy (fX rfl hh hh h16) ?_
 refine Z2 ?_
 refine aC [1,2,0] (by decide) ?_
 exact bB ((k4,x13.set y9.toNat true,z3)) ⟨H,Nat.lt_succ_self _⟩ (Sc (Sc (Sc (Sc (Sc aV.nil))))) rfl
 exact fk
 kernel_rfl
 refine dG hh c17 ?_
 refine Z6 ?_
 refine aC [1,2] (by decide) ?_
 exact bB (x13) (Option.some.inj H).symm (Sc (Sc (Sc aV.nil))) rfl
 clear H;intro x10 hi;subst o4;have H:=Hr4;clear Hr4;try dsimp only at H
 try dsimp only
 refine Z2 ?_
 revert H;refine bs fun z4 h17 H=>?_
 refine Yy (fX rfl hh hh h17) ?_
 refine Z2 ?_
 exact bB ((k3,x10,z4)) ⟨H,Nat.lt_succ_self _⟩ (Sc (Sc (Sc aV.nil))) rfl
 refine dG hh c12 ?_
 refine Z5 ?_
 exact bB (x8) (Option.some.inj H).symm (Sc aV.nil) rfl
 clear H;intro x5 hi;subst o3;have H:=Hr3;clear Hr3;try dsimp only at H
 try dsimp only
 revert H;refine bs fun o5 H Hr5=>?_
 refine aT (ι:=Unit) (fun i=>o5=Sum.inl ()) (fun i=>[]) (fun i=>[aA b1 63 [fSl bG a0.Chans,fSl bQ a0.Spots,fSl bR a0.Rules]]) ?_ ?_
 refine Z4 ?_
 refine iT (ι:=Nat × Int) (fun i=>lY x5 i.1 i.2=_) (fun i=>i.1) (fun i=>[(3,fEq v1),(10,fI i.2)]) (fun i=>[aA b1 63 [fSl bG a0.Chans,fSl bQ a0.Spots,fSl bR a0.Rules],aD v1 4 fW x5]) (fuel,0) H (Sc (Sc aV.nil)) rfl ?_
 clear H;rintro⟨k5,x16⟩ H
 replace H:lY x5 k5 x16=_:=H
 try dsimp only
 obtain _ | k5:=k5
 rw [lY]at H;cases H
 rw [lY]at H
 refine aL ?_
 refine Z6 ?_
 revert H;refine is (fun c22 H=>?_) fun c22 H=>?_
 refine dH hh c22 ?_
 refine Z2 ?_
 refine aL ?_
 refine Z4 ?_
 revert H;refine bs fun y14 h18 H=>?_
 refine Yo 1 rfl (tK rfl hh hh (el rfl) h18) ?_
 refine Yo 1 rfl (kK rfl rfl hh (sc rfl) (cU h18) rfl) ?_
 refine Z2 ?_
 revert H;refine cs (fun c23 H=>?_) fun c23 H=>?_
 refine dG hh (not_t c23) ?_
 refine Z5 ?_
 revert H;refine bs fun z5 h19 H=>?_
 refine Yy (fX rfl hh hh h19) ?_
 refine Z2 ?_
 exact bB ((k5,z5)) ⟨H,Nat.lt_succ_self _⟩ (Sc (Sc aV.nil)) rfl
 refine dH hh (not_f c23) ?_
 refine Z9 ?_
 revert H;refine bs fun r23 H e23=>?_
 have e23:=Option.some.inj e23;subst e23;have Hr5:=Option.some.inj Hr5;subst Hr5
 cases H
 refine aC [] (by decide) ?_
 exact eB rfl (bV rfl) rfl
 refine dG hh c22 ?_
 refine Z5 ?_
 refine aC [0] (by decide) ?_
 exact bB (()) (Option.some.inj H).symm aV.nil rfl
 clear H;intro i hi;subst o5;have H:=Hr5;clear Hr5;try dsimp only at H
 try dsimp only
 refine Z4 ?_
 cases H
 refine aC [] (by decide) ?_
 exact eB rfl (bV rfl) rfl
open Go.SX Go.SW Go.Dt
def wK (a0:Int):Option (Int):=
 (if a0=1 then
  some (decide (a0=1))
 else
  if a0=2 then
   some (decide (a0=2))
  else
   if a0=9 then
    some (decide (a0=9))
   else
    if a0=10 then
     some (decide (a0=10))
    else
     if a0=11 then
      some (decide (a0=11))
     else
      some (decide (a0=12))).bind fun x1=>
 bif x1 then
  some 1
 else
  (if a0=8 then
   some (decide (a0=8))
  else
   if a0=13 then
    some (decide (a0=13))
   else
    some (decide (a0=15))).bind fun x2=>
  bif x2 then
   some 2
  else
   (if a0=3 then
    some (decide (a0=3))
   else
    if a0=4 then
     some (decide (a0=4))
    else
     if a0=5 then
      some (decide (a0=5))
     else
      if a0=6 then
       some (decide (a0=6))
      else
       if a0=7 then
        some (decide (a0=7))
       else
        if a0=14 then
         some (decide (a0=14))
        else
         some (decide (a0=16))).bind fun x3=>
   bif x3 then
    some 0
   else
    some (-1)
theorem aGV  (a0:Int) (r:Int) (H:wK a0=some r):FnS Tryz.prog 123 [fI a0] [] (fI r) (fun _=>[]):=by
 unfold wK at H
 refine cD Tryz.func123 rfl Tryz.ntmps123 rfl (fun β=>?_)
 refine Z3 ?_
 refine aL ?_
 revert H;refine B4 fun o1 H Hr1=>?_
 refine aT (ι:=Bool) (fun i=>o1=i) (fun i=>[(3,fI a0),(4,aJ i)]) (fun i=>[]) ?_ ?_
 revert H;refine I4 (fun c1 H=>?_) fun c1 H=>?_
 refine Z3 ?_
 exact Tm (decide (a0=1)) (ij H)
 revert H;refine I5 (fun c2 H=>?_) fun c2 H=>?_
 refine Z3 ?_
 exact Tm (decide (a0=2)) (ij H)
 revert H;refine I5 (fun c3 H=>?_) fun c3 H=>?_
 refine Z3 ?_
 exact Tm (decide (a0=9)) (ij H)
 revert H;refine I5 (fun c4 H=>?_) fun c4 H=>?_
 refine Z3 ?_
 exact Tm (decide (a0=10)) (ij H)
 revert H;refine I5 (fun c5 H=>?_) fun c5 H=>?_
 refine Z3 ?_
 exact Tm (decide (a0=11)) (ij H)
 refine Z5 ?_
 exact Tm (decide (a0=12)) (ij H)
 clear H;intro x1 hi;subst o1;have H:=Hr1;clear Hr1;try dsimp only at H
 try dsimp only
 revert H;refine cs (fun c6 H=>?_) fun c6 H=>?_
 refine Z7 ?_
 cases H
 exact To
 revert H;refine B1 fun o2 H Hr2=>?_
 refine aT (ι:=Bool) (fun i=>o2=i) (fun i=>[(3,fI a0),(11,aJ i)]) (fun i=>[]) ?_ ?_
 revert H;refine I4 (fun c7 H=>?_) fun c7 H=>?_
 refine Z3 ?_
 exact Tm (decide (a0=8)) (ij H)
 revert H;refine I5 (fun c8 H=>?_) fun c8 H=>?_
 refine Z3 ?_
 exact Tm (decide (a0=13)) (ij H)
 refine Z5 ?_
 exact Tm (decide (a0=15)) (ij H)
 clear H;intro x2 hi;subst o2;have H:=Hr2;clear Hr2;try dsimp only at H
 try dsimp only
 revert H;refine cs (fun c9 H=>?_) fun c9 H=>?_
 refine Z7 ?_
 cases H
 exact To
 revert H;refine B1 fun o3 H Hr3=>?_
 refine aT (ι:=Bool) (fun i=>o3=i) (fun i=>[(15,aJ i)]) (fun i=>[]) ?_ ?_
 revert H;refine I4 (fun c10 H=>?_) fun c10 H=>?_
 refine Z3 ?_
 exact Tm (decide (a0=3)) (ij H)
 revert H;refine I5 (fun c11 H=>?_) fun c11 H=>?_
 refine Z3 ?_
 exact Tm (decide (a0=4)) (ij H)
 revert H;refine I5 (fun c12 H=>?_) fun c12 H=>?_
 refine Z3 ?_
 exact Tm (decide (a0=5)) (ij H)
 revert H;refine I5 (fun c13 H=>?_) fun c13 H=>?_
 refine Z3 ?_
 exact Tm (decide (a0=6)) (ij H)
 revert H;refine I5 (fun c14 H=>?_) fun c14 H=>?_
 refine Z3 ?_
 exact Tm (decide (a0=7)) (ij H)
 revert H;refine I5 (fun c15 H=>?_) fun c15 H=>?_
 refine Z3 ?_
 exact Tm (decide (a0=14)) (ij H)
 refine Z5 ?_
 exact Tm (decide (a0=16)) (ij H)
 clear H;intro x3 hi;subst o3;have H:=Hr3;clear Hr3;try dsimp only at H
 try dsimp only
 revert H;refine cs (fun c16 H=>?_) fun c16 H=>?_
 refine Z7 ?_
 cases H
 exact To
 refine Z8 ?_
 cases H
 exact To
def pD (a0:CodeProg) (y1:CodeIns):Nat → Int → Option ((Unit) ⊕ ((Unit) ⊕ (Bool)))
| 0,_=>none
| k+1,x5=>
 if x5<y1.A then
  (idx a0.Code x5).bind fun y3=>
  if y3.Op=16 then
   ((some false).bind fun r=>some (Sum.inr r)).bind fun r=>some (Sum.inr r)
  else
   (chk (x5+1)).bind fun z1=>
   pD a0 y1 k z1
 else
  some (Sum.inl ())
def tF (fuel:Nat) (a0:CodeProg) (a1:Int):Option (Bool):=
 (idx a0.Code a1).bind fun y1=>
 (wK y1.Op).bind fun y2=>
 (if y2<0 then
  (some false).bind fun r=>some (Sum.inr r)
 else
  if y2<1 then
   if y1.A≠0 then
    (some false).bind fun r=>some (Sum.inr r)
   else
    if y2<2 then
     if y1.B≠0 then
      (some false).bind fun r=>some (Sum.inr r)
     else
      some (Sum.inl ())
    else
     some (Sum.inl ())
  else
   if y2<2 then
    if y1.B≠0 then
     (some false).bind fun r=>some (Sum.inr r)
    else
     some (Sum.inl ())
   else
    some (Sum.inl ())).bind fun o=>match o with
 | Sum.inr r=>some r
 | Sum.inl _=>
 (if y1.Op=1 then
  (if (-1000000000) ≤ y1.A then
   some (decide (y1.A ≤ 1000000000))
  else
   some false).bind fun x1=>
  (some x1).bind fun r=>some (Sum.inr r)
 else
  if y1.Op=8 then
   (if 0 ≤ y1.A then
    if 0 ≤ y1.B then
     some (decide (y1.B ≤ 3))
    else
     some false
   else
    some false).bind fun x2=>
   (some x2).bind fun r=>some (Sum.inr r)
  else
   (if y1.Op=9 then
    some (decide (y1.Op=9))
   else
    some (decide (y1.Op=10))).bind fun x3=>
   bif x3 then
    if y1.A ≤ a1 then
     (some false).bind fun r=>some (Sum.inr r)
    else
     if (a0.Code.length:Int) ≤ y1.A then
      (some false).bind fun r=>some (Sum.inr r)
     else
      (pD a0 y1 fuel a1).bind fun o=>match o with
      | Sum.inr r=>some r
      | Sum.inl _=>
      (some true).bind fun r=>some (Sum.inr r)
   else
    if y1.Op=11 then
     (if 0 ≤ y1.A then
      some (decide (y1.A<(a0.Defs.length:Int)))
     else
      some false).bind fun x6=>
     (some x6).bind fun r=>some (Sum.inr r)
    else
     some (Sum.inl ())).bind fun o=>match o with
 | Sum.inr r=>some r
 | Sum.inl _=>
 (if 0 ≤ y1.A then
  some (decide (0 ≤ y1.B))
 else
  some false).bind fun x7=>
 some x7
theorem aGR (fuel:Nat)  (a0:CodeProg) (a1:Int) (r:Bool) (H:tF fuel a0 a1=some r):FnS Tryz.prog 77 [fSt fR a0,fI a1] [] (aJ r) (fun _=>[]):=by
 unfold tF at H
 refine cD Tryz.func77 rfl Tryz.ntmps77 rfl (fun β=>?_)
 refine Z1 ?_
 refine Tn (cG rfl hh bP) fun b1=>?_
 revert H;refine B6 fun y1 h1 H=>?_
 refine Z2 ?_
 refine Tn (cR rfl qK rfl) fun b2=>?_
 refine cW (φs':=[fI y1.Op,fI y1.A,fI y1.B]) trivial rfl rfl (has rfl) (has rfl) (aN (aG trivial) (aN (aG trivial) (aN (aG trivial) bZ))) (sz rfl) rfl rfl rfl ?_
 revert H;refine B4 fun y2 h2 H=>?_
 refine Tc (aGV _ _ h2) ?_
 revert H;refine B2 fun o1 H Hr1=>?_
 refine aT (ι:=Unit) (fun i=>o1=Sum.inl ()) (fun i=>[(1,fI a1),(2,fEq (ptr b1)),(5,fEq (ptr b2))]) (fun i=>[aA b2 73 [fI y1.Op,fI y1.A,fI y1.B],aA b1 25 [fI a0.Free,fSl aF a0.Defs,fSl aH a0.Code,fI a0.Main]]) ?_ ?_
 revert H;refine I4 (fun c1 H=>?_) fun c1 H=>?_
 refine Z3 ?_
 refine bF (⟨_,_,_,_,rfl,rfl,rfl,nu⟩) rfl rfl ?_
 refine bF (⟨_,_,_,_,rfl,rfl,rfl,nu⟩) rfl rfl ?_
 refine bF (⟨_,_,_,_,rfl,rfl,rfl,nu⟩) rfl rfl ?_
 refine Z6 ?_
 refine bF (⟨_,_,_,_,rfl,rfl,rfl,nu⟩) rfl rfl ?_
 refine bF (⟨_,_,_,_,rfl,rfl,rfl,nu⟩) rfl rfl ?_
 refine bF (⟨_,_,_,_,rfl,rfl,rfl,nu⟩) rfl rfl ?_
 revert H;refine B8 fun r1 H e1=>?_
 cases e1;cases Hr1
 cases H
 refine aC [] (by decide) ?_
 exact To
 revert H;refine I3 (fun c2 H=>?_) fun c2 H=>?_
 revert H;refine I6 (fun c3 H=>?_) fun c3 H=>?_
 refine Z3 ?_
 refine bF (⟨_,_,_,_,rfl,rfl,rfl,nu⟩) rfl rfl ?_
 refine bF (⟨_,_,_,_,rfl,rfl,rfl,nu⟩) rfl rfl ?_
 refine bF (⟨_,_,_,_,rfl,rfl,rfl,nu⟩) rfl rfl ?_
 revert H;refine B8 fun r2 H e2=>?_
 cases e2;cases Hr1
 cases H
 refine aC [] (by decide) ?_
 exact To
 revert H;refine I3 (fun c4 H=>?_) fun c4 H=>?_
 revert H;refine I6 (fun c5 H=>?_) fun c5 H=>?_
 revert H;refine B5 fun r3 H e3=>?_
 cases e3;cases Hr1
 cases H
 refine aC [] (by decide) ?_
 exact To
 refine Z3 ?_
 exact Tm (()) (ij H)
 refine Z9 ?_
 exact Tm (()) (ij H)
 revert H;refine I9 (fun c6 H=>?_) fun c6 H=>?_
 revert H;refine I6 (fun c7 H=>?_) fun c7 H=>?_
 revert H;refine B5 fun r4 H e4=>?_
 cases e4;cases Hr1
 cases H
 refine aC [] (by decide) ?_
 exact To
 refine Z3 ?_
 exact Tm (()) (ij H)
 refine Z9 ?_
 exact Tm (()) (ij H)
 clear H;intro i hi;subst o1;have H:=Hr1;clear Hr1;try dsimp only at H
 try dsimp only
 revert H;refine bs fun o2 H Hr2=>?_
 refine aT (ι:=Unit) (fun i=>o2=Sum.inl ()) (fun i=>[(5,fEq (ptr b2))]) (fun i=>[aA b2 73 [fI y1.Op,fI y1.A,fI y1.B],aA b1 25 [fI a0.Free,fSl aF a0.Defs,fSl aH a0.Code,fI a0.Main]]) ?_ ?_
 revert H;refine I9 (fun c8 H=>?_) fun c8 H=>?_
 revert H;refine B1 fun o3 H Hr3=>?_
 refine aT (ι:=Bool) (fun i=>o3=i) (fun i=>[(4,aJ i)]) (fun i=>[aA b2 73 [fI y1.Op,fI y1.A,fI y1.B],aA b1 25 [fI a0.Free,fSl aF a0.Defs,fSl aH a0.Code,fI a0.Main]]) ?_ ?_
 revert H;refine I5 (fun c9 H=>?_) fun c9 H=>?_
 refine Z6 ?_
 exact Tm (decide (y1.A ≤ 1000000000)) (ij H)
 refine Z6 ?_
 exact Tm (false) (ij H)
 clear H;intro x1 hi;subst o3;have H:=Hr3;clear Hr3;try dsimp only at H
 try dsimp only
 revert H;refine B3 fun r5 H e5=>?_
 cases e5;cases Hr2
 cases H
 refine aC [] (by decide) ?_
 exact To
 revert H;refine I5 (fun c10 H=>?_) fun c10 H=>?_
 revert H;refine B1 fun o4 H Hr4=>?_
 refine aT (ι:=Bool) (fun i=>o4=i) (fun i=>[(4,aJ i)]) (fun i=>[aA b2 73 [fI y1.Op,fI y1.A,fI y1.B],aA b1 25 [fI a0.Free,fSl aF a0.Defs,fSl aH a0.Code,fI a0.Main]]) ?_ ?_
 revert H;refine I5 (fun c11 H=>?_) fun c11 H=>?_
 revert H;refine I5 (fun c12 H=>?_) fun c12 H=>?_
 refine Z6 ?_
 exact Tm (decide (y1.B ≤ 3)) (ij H)
 refine Z6 ?_
 exact Tm (false) (ij H)
 refine Z11 ?_
 exact Tm (false) (ij H)
 clear H;intro x2 hi;subst o4;have H:=Hr4;clear Hr4;try dsimp only at H
 try dsimp only
 revert H;refine B3 fun r6 H e6=>?_
 cases e6;cases Hr2
 cases H
 refine aC [] (by decide) ?_
 exact To
 revert H;refine B1 fun o5 H Hr5=>?_
 refine aT (ι:=Bool) (fun i=>o5=i) (fun i=>[(1,fI a1),(2,fEq (ptr b1)),(5,fEq (ptr b2)),(37,fI y1.Op),(63,aJ i)]) (fun i=>[aA b2 73 [fI y1.Op,fI y1.A,fI y1.B],aA b1 25 [fI a0.Free,fSl aF a0.Defs,fSl aH a0.Code,fI a0.Main]]) ?_ ?_
 revert H;refine I4 (fun c13 H=>?_) fun c13 H=>?_
 refine Z3 ?_
 exact Tm (decide (y1.Op=9)) (ij H)
 refine Z5 ?_
 exact Tm (decide (y1.Op=10)) (ij H)
 clear H;intro x3 hi;subst o5;have H:=Hr5;clear Hr5;try dsimp only at H
 try dsimp only
 revert H;refine cs (fun c14 H=>?_) fun c14 H=>?_
 refine Z1 ?_
 refine aL ?_
 revert H;refine I6 (fun c15 H=>?_) fun c15 H=>?_
 refine Z12 ?_
 revert H;refine B3 fun r7 H e7=>?_
 cases e7;cases Hr2
 cases H
 refine aC [] (by decide) ?_
 exact To
 revert H;refine I8 (fun c16 H=>?_) fun c16 H=>?_
 revert H;refine B7 fun r8 H e8=>?_
 cases e8;cases Hr2
 cases H
 refine aC [] (by decide) ?_
 exact To
 revert H;refine B3 fun o6 H Hr6=>?_
 refine aT (ι:=Unit) (fun i=>o6=Sum.inl ()) (fun i=>[]) (fun i=>[aA b2 73 [fI y1.Op,fI y1.A,fI y1.B],aA b1 25 [fI a0.Free,fSl aF a0.Defs,fSl aH a0.Code,fI a0.Main]]) ?_ ?_
 refine Z5 ?_
 refine Tl (ι:=Nat × Int) (fun i=>pD a0 y1 i.1 i.2=_) (fun i=>i.1) (fun i=>[(2,fEq (ptr b1)),(5,fEq (ptr b2)),(7,fI i.2)]) (fun i=>[aA b2 73 [fI y1.Op,fI y1.A,fI y1.B],aA b1 25 [fI a0.Free,fSl aF a0.Defs,fSl aH a0.Code,fI a0.Main]]) (fuel,a1) H ?_
 clear H;rintro⟨k1,x5⟩ H
 replace H:pD a0 y1 k1 x5=_:=H
 try dsimp only
 obtain _ | k1:=k1
 rw [pD]at H;cases H
 rw [pD]at H
 refine aL ?_
 revert H;refine I6 (fun c17 H=>?_) fun c17 H=>?_
 refine Z3 ?_
 refine aL ?_
 revert H;refine B5 fun y3 h3 H=>?_
 revert H;refine I5 (fun c18 H=>?_) fun c18 H=>?_
 revert H;refine B10 fun r9 H e9=>?_
 cases e9;cases Hr6
 revert H;refine B2 fun r10 H e10=>?_
 cases e10;cases Hr2
 cases H
 refine aC [] (by decide) ?_
 exact To
 revert H;refine B6 fun z1 h4 H=>?_
 refine Z3 ?_
 exact Tm ((k1,z1)) ⟨H,ls⟩
 refine Z6 ?_
 exact Tm (()) (ij H)
 clear H;intro i hi;subst o6;have H:=Hr6;clear Hr6;try dsimp only at H
 try dsimp only
 revert H;refine B6 fun r11 H e11=>?_
 cases e11;cases Hr2
 cases H
 refine aC [] (by decide) ?_
 exact To
 revert H;refine I5 (fun c19 H=>?_) fun c19 H=>?_
 revert H;refine B1 fun o7 H Hr7=>?_
 refine aT (ι:=Bool) (fun i=>o7=i) (fun i=>[(4,aJ i)]) (fun i=>[aA b2 73 [fI y1.Op,fI y1.A,fI y1.B],aA b1 25 [fI a0.Free,fSl aF a0.Defs,fSl aH a0.Code,fI a0.Main]]) ?_ ?_
 revert H;refine I5 (fun c20 H=>?_) fun c20 H=>?_
 refine Z9 ?_
 exact Tm (decide (y1.A<(a0.Defs.length:Int))) (ij H)
 refine Z9 ?_
 exact Tm (false) (ij H)
 clear H;intro x6 hi;subst o7;have H:=Hr7;clear Hr7;try dsimp only at H
 try dsimp only
 revert H;refine B3 fun r12 H e12=>?_
 cases e12;cases Hr2
 cases H
 refine aC [] (by decide) ?_
 exact To
 refine Z4 ?_
 exact Tm (()) (ij H)
 clear H;intro i hi;subst o2;have H:=Hr2;clear Hr2;try dsimp only at H
 try dsimp only
 revert H;refine bs fun o8 H Hr8=>?_
 refine aT (ι:=Bool) (fun i=>o8=i) (fun i=>[(4,aJ i)]) (fun i=>[aA b2 73 [fI y1.Op,fI y1.A,fI y1.B],aA b1 25 [fI a0.Free,fSl aF a0.Defs,fSl aH a0.Code,fI a0.Main]]) ?_ ?_
 revert H;refine I5 (fun c21 H=>?_) fun c21 H=>?_
 refine Z6 ?_
 exact Tm (decide (0 ≤ y1.B)) (ij H)
 refine Z6 ?_
 exact Tm (false) (ij H)
 clear H;intro x7 hi;subst o8;have H:=Hr8;clear Hr8;try dsimp only at H
 try dsimp only
 refine Z1 ?_
 cases H
 refine aC [] (by decide) ?_
 exact To
def pC (a0:Int):Option (Bool):=
 (if a0=13 then
  some true
 else
  some (decide (a0=15))).bind fun x1=>
 some x1
theorem aAA  (a0:Int) (r:Bool) (H:pC a0=some r):FnS Tryz.prog 48 [fI a0] [] (aJ r) (fun _=>[]):=by
 unfold pC at H
 refine cD Tryz.func48 rfl Tryz.ntmps48 rfl (fun β=>?_)
 revert H;refine B3 fun o1 H Hr1=>?_
 refine aT (ι:=Bool) (fun i=>o1=i) (fun i=>[(2,aJ i)]) (fun i=>[]) ?_ ?_
 revert H;refine I4 (fun c1 H=>?_) fun c1 H=>?_
 refine Z5 ?_
 exact Tm (true) (ij H)
 refine Z5 ?_
 exact Tm (decide (a0=15)) (ij H)
 clear H;intro x1 hi;subst o1;have H:=Hr1;clear Hr1;try dsimp only at H
 try dsimp only
 refine Z1 ?_
 cases H
 exact To
open Go.SX Go.SW Go.Dt
def mZ (a0:CodeProg) (x5:Int):Nat → (List Int) → Int → Option (List Int)
| 0,_,_=>none
| k+1,x10,x11=>
 (idx a0.Defs x5).bind fun y1=>
 if x11<(y1.Rules.length:Int)then
  (idx a0.Defs x5).bind fun y2=>
  (idx y2.Rules x11).bind fun y3=>
  (dB (x10++[y3.Node])).bind fun z1=>
  (chk (x11+1)).bind fun z2=>
  mZ a0 x5 k z1 z2
 else
  some x10
def nL (a0:CodeProg) (x5:Int):Nat → (List Int) → Int → Option (List Int)
| 0,_,_=>none
| k+1,x14,x15=>
 (idx a0.Defs x5).bind fun y4=>
 if x15<(y4.Spots.length:Int)then
  (idx a0.Defs x5).bind fun y5=>
  (idx y5.Spots x15).bind fun y6=>
  (dB (x14++[y6.Node])).bind fun z3=>
  (chk (x15+1)).bind fun z4=>
  nL a0 x5 k z3 z4
 else
  some x14
def nT (fuel:Nat) (a0:CodeProg):Nat → (List Int) → Int → Option (List Int)
| 0,_,_=>none
| k+1,x4,x5=>
 if x5<(a0.Defs.length:Int)then
  ((mZ a0 x5 fuel x4 0).bind fun x7=>
  nL a0 x5 fuel x7 0).bind fun x6=>
  (chk (x5+1)).bind fun z5=>
  nT fuel a0 k x6 z5
 else
  some x4
def mV (a0:CodeProg):Nat → (List Int) → Int → Option (List Int)
| 0,_,_=>none
| k+1,x19,x20=>
 if x20<(a0.Code.length:Int)then
  ((idx a0.Code x20).bind fun y7=>
  (pC y7.Op).bind fun y8=>
  bif y8 then
   (idx a0.Code x20).bind fun y9=>
   (dB (x19++[y9.B])).bind fun z6=>
   some z6
  else
   some x19).bind fun x21=>
  (chk (x20+1)).bind fun z7=>
  mV a0 k x21 z7
 else
  some x19
def rS (fuel:Nat) (a0:CodeProg):Option (List Int):=
 (nT fuel a0 fuel [a0.Main] 0).bind fun x1=>
 (mV a0 fuel x1 0).bind fun x16=>
 some x16
theorem nI (fuel:Nat)  (a0:CodeProg) (r:List Int) (H:rS fuel a0=some r):FnS Tryz.prog 55 [fSt fR a0] [] (fSl tI r) (fun _=>[]):=by
 unfold rS at H
 refine cD Tryz.func55 rfl Tryz.ntmps55 rfl (fun β=>?_)
 refine Z1 ?_
 refine Tn (cG rfl hh bP) fun b1=>?_
 refine Z5 ?_
 refine Tn (eQ (t:=tI) (xs:=[a0.Main]) rfl (et rfl) (bS.cons rfl (has rfl) (bY (aG trivial)) bS.nil) rfl rfl rfl) fun b2=>?_
 generalize (Value.slice (some ⟨b2,0,none⟩) _ _)=v1
 refine aB 0 rfl (fun hc_v1=>?_)
 revert H;refine B2 fun o1 H Hr1=>?_
 refine aT (ι:=List Int × Value) (fun i=>o1=i.1) (fun i=>[(1,fEq (ptr b1)),(3,fEq i.2)]) (fun i=>[aA b1 25 [fI a0.Free,fSl aF a0.Defs,fSl aH a0.Code,fI a0.Main],aD i.2 3 tI i.1]) ?_ ?_
 refine Z4 ?_
 refine aC [1,0] (by decide) ?_
 refine Tl (ι:=Nat × List Int × Int × Value) (fun i=>nT fuel a0 i.1 i.2.1 i.2.2.1=_) (fun i=>i.1) (fun i=>[(1,fEq (ptr b1)),(3,fEq i.2.2.2),(4,fI i.2.2.1)]) (fun i=>[aA b1 25 [fI a0.Free,fSl aF a0.Defs,fSl aH a0.Code,fI a0.Main],aD i.2.2.2 3 tI i.2.1]) (fuel,[a0.Main],0,v1) H ?_
 clear H;rintro⟨k1,x4,x5,v4⟩ H
 replace H:nT fuel a0 k1 x4 x5=_:=H
 try dsimp only
 obtain _ | k1:=k1
 rw [nT]at H;cases H
 rw [nT]at H
 refine aB 1 rfl (fun hc_v4=>?_)
 refine aL ?_
 revert H;refine I7 (fun c1 H=>?_) fun c1 H=>?_
 revert H;refine B3 fun o2 H Hr2=>?_
 refine aT (ι:=List Int × Value) (fun i=>o2=i.1) (fun i=>[(1,fEq (ptr b1)),(3,fEq i.2),(4,fI x5)]) (fun i=>[aA b1 25 [fI a0.Free,fSl aF a0.Defs,fSl aH a0.Code,fI a0.Main],aD i.2 3 tI i.1]) ?_ ?_
 revert H;refine B1 fun o3 H Hr3=>?_
 refine aT (ι:=List Int × Value) (fun i=>o3=i.1) (fun i=>[(1,fEq (ptr b1)),(3,fEq i.2),(4,fI x5)]) (fun i=>[aA b1 25 [fI a0.Free,fSl aF a0.Defs,fSl aH a0.Code,fI a0.Main],aD i.2 3 tI i.1]) ?_ ?_
 refine Z4 ?_
 refine Tl (ι:=Nat × List Int × Int × Value) (fun i=>mZ a0 x5 i.1 i.2.1 i.2.2.1=_) (fun i=>i.1) (fun i=>[(1,fEq (ptr b1)),(3,fEq i.2.2.2),(4,fI x5),(5,fI i.2.2.1)]) (fun i=>[aA b1 25 [fI a0.Free,fSl aF a0.Defs,fSl aH a0.Code,fI a0.Main],aD i.2.2.2 3 tI i.2.1]) (fuel,x4,0,v4) H ?_
 clear H;rintro⟨k2,x10,x11,v8⟩ H
 replace H:mZ a0 x5 k2 x10 x11=_:=H
 try dsimp only
 obtain _ | k2:=k2
 rw [mZ]at H;cases H
 rw [mZ]at H
 refine aB 1 rfl (fun hc_v8=>?_)
 refine aL ?_
 revert H;refine B5 fun y1 h1 H=>?_
 revert H;refine I6 (fun c2 H=>?_) fun c2 H=>?_
 refine Z3 ?_
 refine aL ?_
 revert H;refine B6 fun y2 h2 H=>?_
 revert H;refine B4 fun y3 h3 H=>?_
 refine Z3 ?_
 refine Tn (eQ (t:=tI) (xs:=[y3.Node]) rfl (et rfl) (bS.cons rfl (has rfl) (bY (aG trivial)) bS.nil) rfl rfl rfl) fun b3=>?_
 generalize (Value.slice (some ⟨b3,0,none⟩) _ _)=v9
 refine aB 0 rfl (fun hc_v9=>?_)
 revert H;refine bs fun z1 h4 H=>?_
 refine aO ?_
 refine aP ?_
 refine gJ trivial rfl rfl rfl (has rfl) (has rfl) (et rfl) rfl h4 (fun v10=>?_)
 refine aB 0 rfl (fun hc_v10=>?_)
 revert H;refine B6 fun z2 h5 H=>?_
 refine Z3 ?_
 refine aC [1,0] (by decide) ?_
 exact Tm ((k2,z1,z2,v10)) ⟨H,ls⟩
 refine Z6 ?_
 exact Tm ((x10,v8)) (ij H)
 clear H;intro i hi;obtain⟨x7,v6⟩:=i;subst o3;have H:=Hr3;clear Hr3;try dsimp only at H
 try dsimp only
 refine aB 1 rfl (fun hc_v6=>?_)
 refine Z4 ?_
 refine Tl (ι:=Nat × List Int × Int × Value) (fun i=>nL a0 x5 i.1 i.2.1 i.2.2.1=_) (fun i=>i.1) (fun i=>[(1,fEq (ptr b1)),(3,fEq i.2.2.2),(4,fI x5),(6,fI i.2.2.1)]) (fun i=>[aA b1 25 [fI a0.Free,fSl aF a0.Defs,fSl aH a0.Code,fI a0.Main],aD i.2.2.2 3 tI i.2.1]) (fuel,x7,0,v6) H ?_
 clear H;rintro⟨k3,x14,x15,v12⟩ H
 replace H:nL a0 x5 k3 x14 x15=_:=H
 try dsimp only
 obtain _ | k3:=k3
 rw [nL]at H;cases H
 rw [nL]at H
 refine aB 1 rfl (fun hc_v12=>?_)
 refine aL ?_
 revert H;refine B5 fun y4 h6 H=>?_
 revert H;refine I6 (fun c3 H=>?_) fun c3 H=>?_
 refine Z3 ?_
 refine aL ?_
 revert H;refine B6 fun y5 h7 H=>?_
 revert H;refine B4 fun y6 h8 H=>?_
 refine Z3 ?_
 refine Tn (eQ (t:=tI) (xs:=[y6.Node]) rfl (et rfl) (bS.cons rfl (has rfl) (bY (aG trivial)) bS.nil) rfl rfl rfl) fun b4=>?_
 generalize (Value.slice (some ⟨b4,0,none⟩) _ _)=v13
 refine aB 0 rfl (fun hc_v13=>?_)
 revert H;refine bs fun z3 h9 H=>?_
 refine aO ?_
 refine aP ?_
 refine gJ trivial rfl rfl rfl (has rfl) (has rfl) (et rfl) rfl h9 (fun v14=>?_)
 refine aB 0 rfl (fun hc_v14=>?_)
 revert H;refine B6 fun z4 h10 H=>?_
 refine Z3 ?_
 refine aC [1,0] (by decide) ?_
 exact Tm ((k3,z3,z4,v14)) ⟨H,ls⟩
 refine Z7 ?_
 exact Tm ((x14,v12)) (ij H)
 clear H;intro i hi;obtain⟨x6,v5⟩:=i;subst o2;have H:=Hr2;clear Hr2;try dsimp only at H
 try dsimp only
 refine aB 1 rfl (fun hc_v5=>?_)
 revert H;refine B2 fun z5 h11 H=>?_
 refine Z3 ?_
 exact Tm ((k1,x6,z5,v5)) ⟨H,ls⟩
 refine Z6 ?_
 exact Tm ((x4,v4)) (ij H)
 clear H;intro i hi;obtain⟨x1,v2⟩:=i;subst o1;have H:=Hr1;clear Hr1;try dsimp only at H
 try dsimp only
 refine aB 1 rfl (fun hc_v2=>?_)
 revert H;refine bs fun o4 H Hr4=>?_
 refine aT (ι:=List Int × Value) (fun i=>o4=i.1) (fun i=>[(3,fEq i.2)]) (fun i=>[aA b1 25 [fI a0.Free,fSl aF a0.Defs,fSl aH a0.Code,fI a0.Main],aD i.2 3 tI i.1]) ?_ ?_
 refine Z4 ?_
 refine Tl (ι:=Nat × List Int × Int × Value) (fun i=>mV a0 i.1 i.2.1 i.2.2.1=_) (fun i=>i.1) (fun i=>[(1,fEq (ptr b1)),(3,fEq i.2.2.2),(7,fI i.2.2.1)]) (fun i=>[aA b1 25 [fI a0.Free,fSl aF a0.Defs,fSl aH a0.Code,fI a0.Main],aD i.2.2.2 3 tI i.2.1]) (fuel,x1,0,v2) H ?_
 clear H;rintro⟨k4,x19,x20,v17⟩ H
 replace H:mV a0 k4 x19 x20=_:=H
 try dsimp only
 obtain _ | k4:=k4
 rw [mV]at H;cases H
 rw [mV]at H
 refine aB 1 rfl (fun hc_v17=>?_)
 refine aL ?_
 revert H;refine I7 (fun c4 H=>?_) fun c4 H=>?_
 revert H;refine B3 fun o5 H Hr5=>?_
 refine aT (ι:=List Int × Value) (fun i=>o5=i.1) (fun i=>[(1,fEq (ptr b1)),(7,fI x20),(3,fEq i.2)]) (fun i=>[aA b1 25 [fI a0.Free,fSl aF a0.Defs,fSl aH a0.Code,fI a0.Main],aD i.2 3 tI i.1]) ?_ ?_
 revert H;refine B5 fun y7 h12 H=>?_
 revert H;refine B3 fun y8 h13 H=>?_
 refine Tc (aAA _ _ h13) ?_
 refine Z1 ?_
 revert H;refine cs (fun c5 H=>?_) fun c5 H=>?_
 revert H;refine B6 fun y9 h14 H=>?_
 refine Z3 ?_
 refine Tn (eQ (t:=tI) (xs:=[y9.B]) rfl (et rfl) (bS.cons rfl (has rfl) (bY (aG trivial)) bS.nil) rfl rfl rfl) fun b5=>?_
 generalize (Value.slice (some ⟨b5,0,none⟩) _ _)=v19
 refine aB 0 rfl (fun hc_v19=>?_)
 revert H;refine bs fun z6 h15 H=>?_
 refine aO ?_
 refine aP ?_
 refine gJ trivial rfl rfl rfl (has rfl) (has rfl) (et rfl) rfl h15 (fun v20=>?_)
 refine aB 0 rfl (fun hc_v20=>?_)
 refine Z4 ?_
 refine aC [1,0] (by decide) ?_
 exact Tm ((z6,v20)) (ij H)
 refine Z4 ?_
 exact Tm ((x19,v17)) (ij H)
 clear H;intro i hi;obtain⟨x21,v18⟩:=i;subst o5;have H:=Hr5;clear Hr5;try dsimp only at H
 try dsimp only
 refine aB 1 rfl (fun hc_v18=>?_)
 revert H;refine B2 fun z7 h16 H=>?_
 refine Z3 ?_
 exact Tm ((k4,x21,z7,v18)) ⟨H,ls⟩
 refine Z6 ?_
 exact Tm ((x19,v17)) (ij H)
 clear H;intro i hi;obtain⟨x16,v15⟩:=i;subst o4;have H:=Hr4;clear Hr4;try dsimp only at H
 try dsimp only
 refine aB 1 rfl (fun hc_v15=>?_)
 refine Z5 ?_
 refine aP ?_
 refine hZ (φ:=fSl tI x16) (v:=v15) [3,89,2] fS fz ?_
 refine gV ?_
 cases H
 refine aC [] (by decide) ?_
 exact To
def kX (a0:CodeProg) (y1:List Int):Nat → (List Bool) → Int → Option ((Unit) ⊕ (Bool))
| 0,_,_=>none
| k+1,x3,x4=>
 if x4<(y1.length:Int)then
  (idx y1 x4).bind fun y3=>
  (if y3<0 then
   ((some false).bind fun r=>some (Sum.inr r)).bind fun r=>some (Sum.inr r)
  else
   if (a0.Code.length:Int) ≤ y3 then
    ((some false).bind fun r=>some (Sum.inr r)).bind fun r=>some (Sum.inr r)
   else
    (idx x3 y3).bind fun y4=>
    bif y4 then
     ((some false).bind fun r=>some (Sum.inr r)).bind fun r=>some (Sum.inr r)
    else
     if 0<y3 then
      (chk (y3 - 1)).bind fun z1=>
      (idx a0.Code z1).bind fun y5=>
      if y5.Op≠16 then
       ((some false).bind fun r=>some (Sum.inr r)).bind fun r=>some (Sum.inr r)
      else
       some (Sum.inl ())
     else
      some (Sum.inl ())).bind fun o=>match o with
  | Sum.inr r=>some r
  | Sum.inl _=>
  (idx x3 y3).bind fun y6=>
  (chk (x4+1)).bind fun z2=>
  kX a0 y1 k (x3.set y3.toNat true) z2
 else
  some (Sum.inl ())
def nB (a0:CodeProg):Nat → Int → Int → Option (Int)
| 0,_,_=>none
| k+1,x8,x9=>
 if x9<(a0.Code.length:Int)then
  ((idx a0.Code x9).bind fun y7=>
  if y7.Op=16 then
   (chk (x8+1)).bind fun z3=>
   some z3
  else
   some x8).bind fun x10=>
  (chk (x9+1)).bind fun z4=>
  nB a0 k x10 z4
 else
  some x8
def vU (fuel:Nat) (a0:CodeProg):Option (Bool):=
 (rS fuel (⟨a0.Free,a0.Defs,a0.Code,a0.Main⟩:CodeProg)).bind fun y1=>
 (mk false (a0.Code.length:Int)).bind fun y2=>
 (kX a0 y1 fuel y2 0).bind fun o=>match o with
 | Sum.inr r=>some r
 | Sum.inl _=>
 (nB a0 fuel 0 0).bind fun x5=>
 (if x5=(y1.length:Int)then
  (chk ((a0.Code.length:Int) - 1)).bind fun z5=>
  (idx a0.Code z5).bind fun y8=>
  some (decide (y8.Op=16))
 else
  some false).bind fun x11=>
 some x11
theorem aFA (fuel:Nat)  (a0:CodeProg) (r:Bool) (H:vU fuel a0=some r):FnS Tryz.prog 78 [fSt fR a0] [] (aJ r) (fun _=>[]):=by
 unfold vU at H
 refine cD Tryz.func78 rfl Tryz.ntmps78 rfl (fun β=>?_)
 refine Z1 ?_
 refine Tn (cG rfl hh bP) fun b1=>?_
 revert H;refine B4 fun y1 h1 H=>?_
 refine Tc (nI _ _ _ h1) ?_
 revert H;refine B6 fun y2 h2 H=>?_
 refine Tn (zD (t:=fW) (z:=false) rfl hh (et rfl) rfl zR rfl h2) fun b2=>?_
 generalize (Value.slice (some ⟨b2,0,none⟩) _ _)=v1
 refine aB 0 rfl (fun hc_v1=>?_)
 revert H;refine B2 fun o1 H Hr1=>?_
 refine aT (ι:=Unit) (fun i=>o1=Sum.inl ()) (fun i=>[(1,fEq (ptr b1)),(3,fSl tI y1)]) (fun i=>[aA b1 25 [fI a0.Free,fSl aF a0.Defs,fSl aH a0.Code,fI a0.Main]]) ?_ ?_
 refine Z4 ?_
 refine aC [1,0] (by decide) ?_
 refine Tl (ι:=Nat × List Bool × Int) (fun i=>kX a0 y1 i.1 i.2.1 i.2.2=_) (fun i=>i.1) (fun i=>[(1,fEq (ptr b1)),(3,fSl tI y1),(4,fEq v1),(5,fI i.2.2)]) (fun i=>[aA b1 25 [fI a0.Free,fSl aF a0.Defs,fSl aH a0.Code,fI a0.Main],aD v1 4 fW i.2.1]) (fuel,y2,0) H ?_
 clear H;rintro⟨k1,x3,x4⟩ H
 replace H:kX a0 y1 k1 x3 x4=_:=H
 try dsimp only
 obtain _ | k1:=k1
 rw [kX]at H;cases H
 rw [kX]at H
 refine aL ?_
 revert H;refine I6 (fun c1 H=>?_) fun c1 H=>?_
 refine Z3 ?_
 refine aL ?_
 revert H;refine B4 fun y3 h3 H=>?_
 revert H;refine B4 fun o2 H Hr2=>?_
 refine aT (ι:=Unit) (fun i=>o2=Sum.inl ()) (fun i=>[(1,fEq (ptr b1)),(3,fSl tI y1),(4,fEq v1),(5,fI x4),(6,fI y3)]) (fun i=>[aA b1 25 [fI a0.Free,fSl aF a0.Defs,fSl aH a0.Code,fI a0.Main],aD v1 4 fW x3]) ?_ ?_
 revert H;refine I4 (fun c2 H=>?_) fun c2 H=>?_
 refine Z12 ?_
 refine Z4 ?_
 refine bF (⟨_,_,_,_,rfl,rfl,rfl,nu⟩) rfl rfl ?_
 refine bF (⟨_,_,_,_,rfl,rfl,rfl,nu⟩) rfl rfl ?_
 refine bF (⟨_,_,_,_,rfl,rfl,rfl,nu⟩) rfl rfl ?_
 refine bF (⟨_,_,_,_,rfl,rfl,rfl,nu⟩) rfl rfl ?_
 refine bF (⟨_,_,_,_,rfl,rfl,rfl,nu⟩) rfl rfl ?_
 refine bF (⟨_,_,_,_,rfl,rfl,rfl,nu⟩) rfl rfl ?_
 refine bF (⟨_,_,_,_,rfl,rfl,rfl,nu⟩) rfl rfl ?_
 refine bF (⟨_,_,_,_,rfl,rfl,rfl,nu⟩) rfl rfl ?_
 revert H;refine B8 fun r1 H e1=>?_
 cases e1;cases Hr2
 revert H;refine B5 fun r2 H e2=>?_
 cases e2;cases Hr1
 cases H
 refine aC [] (by decide) ?_
 exact To
 revert H;refine I7 (fun c3 H=>?_) fun c3 H=>?_
 refine Z9 ?_
 refine bF (⟨_,_,_,_,rfl,rfl,rfl,nu⟩) rfl rfl ?_
 refine bF (⟨_,_,_,_,rfl,rfl,rfl,nu⟩) rfl rfl ?_
 refine bF (⟨_,_,_,_,rfl,rfl,rfl,nu⟩) rfl rfl ?_
 refine bF (⟨_,_,_,_,rfl,rfl,rfl,nu⟩) rfl rfl ?_
 refine bF (⟨_,_,_,_,rfl,rfl,rfl,nu⟩) rfl rfl ?_
 refine bF (⟨_,_,_,_,rfl,rfl,rfl,nu⟩) rfl rfl ?_
 refine bF (⟨_,_,_,_,rfl,rfl,rfl,nu⟩) rfl rfl ?_
 refine bF (⟨_,_,_,_,rfl,rfl,rfl,nu⟩) rfl rfl ?_
 revert H;refine B8 fun r3 H e3=>?_
 cases e3;cases Hr2
 revert H;refine B5 fun r4 H e4=>?_
 cases e4;cases Hr1
 cases H
 refine aC [] (by decide) ?_
 exact To
 revert H;refine B2 fun y4 h4 H=>?_
 refine Z1 ?_
 refine Yh 1 rfl c3 (kK rfl rfl hh (sc rfl) (cU h4) rfl) ?_
 refine Z2 ?_
 revert H;refine cs (fun c4 H=>?_) fun c4 H=>?_
 refine Z3 ?_
 refine bF (⟨_,_,_,_,rfl,rfl,rfl,nu⟩) rfl rfl ?_
 refine bF (⟨_,_,_,_,rfl,rfl,rfl,nu⟩) rfl rfl ?_
 refine bF (⟨_,_,_,_,rfl,rfl,rfl,nu⟩) rfl rfl ?_
 refine bF (⟨_,_,_,_,rfl,rfl,rfl,nu⟩) rfl rfl ?_
 refine bF (⟨_,_,_,_,rfl,rfl,rfl,nu⟩) rfl rfl ?_
 refine bF (⟨_,_,_,_,rfl,rfl,rfl,nu⟩) rfl rfl ?_
 refine bF (⟨_,_,_,_,rfl,rfl,rfl,nu⟩) rfl rfl ?_
 refine bF (⟨_,_,_,_,rfl,rfl,rfl,nu⟩) rfl rfl ?_
 revert H;refine B8 fun r5 H e5=>?_
 cases e5;cases Hr2
 revert H;refine B5 fun r6 H e6=>?_
 cases e6;cases Hr1
 cases H
 refine aC [] (by decide) ?_
 exact To
 revert H;refine I3 (fun c5 H=>?_) fun c5 H=>?_
 revert H;refine B3 fun z1 h5 H=>?_
 revert H;refine B1 fun y5 h6 H=>?_
 revert H;refine I7 (fun c6 H=>?_) fun c6 H=>?_
 revert H;refine B5 fun r7 H e7=>?_
 cases e7;cases Hr2
 revert H;refine B5 fun r8 H e8=>?_
 cases e8;cases Hr1
 cases H
 refine aC [] (by decide) ?_
 exact To
 refine Z3 ?_
 exact Tm (()) (ij H)
 refine Z12 ?_
 refine Z2 ?_
 exact Tm (()) (ij H)
 clear H;intro i hi;subst o2;have H:=Hr2;clear Hr2;try dsimp only at H
 try dsimp only
 revert H;refine B3 fun y6 h7 H=>?_
 refine Z1 ?_
 refine aP ?_
 refine aAe (z':=true) trivial rfl rfl rfl (has rfl) (has rfl) (aG trivial) (sz rfl) (cU h7) rfl rfl ?_
 revert H;refine B5 fun z2 h8 H=>?_
 refine Z3 ?_
 refine aC [1,0] (by decide) ?_
 exact Tm ((k1,x3.set y3.toNat true,z2)) ⟨H,ls⟩
 refine Z6 ?_
 refine aC [0] (by decide) ?_
 exact Tm (()) (ij H)
 clear H;intro i hi;subst o1;have H:=Hr1;clear Hr1;try dsimp only at H
 try dsimp only
 revert H;refine B3 fun o3 H Hr3=>?_
 refine aT (ι:=Int) (fun i=>o3=i) (fun i=>[(1,fEq (ptr b1)),(3,fSl tI y1),(7,fI i)]) (fun i=>[aA b1 25 [fI a0.Free,fSl aF a0.Defs,fSl aH a0.Code,fI a0.Main]]) ?_ ?_
 refine Z4 ?_
 refine Tl (ι:=Nat × Int × Int) (fun i=>nB a0 i.1 i.2.1 i.2.2=_) (fun i=>i.1) (fun i=>[(1,fEq (ptr b1)),(3,fSl tI y1),(7,fI i.2.1),(8,fI i.2.2)]) (fun i=>[aA b1 25 [fI a0.Free,fSl aF a0.Defs,fSl aH a0.Code,fI a0.Main]]) (fuel,0,0) H ?_
 clear H;rintro⟨k2,x8,x9⟩ H
 replace H:nB a0 k2 x8 x9=_:=H
 try dsimp only
 obtain _ | k2:=k2
 rw [nB]at H;cases H
 rw [nB]at H
 refine aL ?_
 revert H;refine I7 (fun c7 H=>?_) fun c7 H=>?_
 revert H;refine B3 fun o4 H Hr4=>?_
 refine aT (ι:=Int) (fun i=>o4=i) (fun i=>[(1,fEq (ptr b1)),(3,fSl tI y1),(7,fI i),(8,fI x9)]) (fun i=>[aA b1 25 [fI a0.Free,fSl aF a0.Defs,fSl aH a0.Code,fI a0.Main]]) ?_ ?_
 revert H;refine B5 fun y7 h9 H=>?_
 revert H;refine I5 (fun c8 H=>?_) fun c8 H=>?_
 revert H;refine B3 fun z3 h10 H=>?_
 refine Z5 ?_
 exact Tm (z3) (ij H)
 refine Z4 ?_
 exact Tm (x8) (ij H)
 clear H;intro x10 hi;subst o4;have H:=Hr4;clear Hr4;try dsimp only at H
 try dsimp only
 revert H;refine B2 fun z4 h11 H=>?_
 refine Z3 ?_
 exact Tm ((k2,x10,z4)) ⟨H,ls⟩
 refine Z6 ?_
 exact Tm (x8) (ij H)
 clear H;intro x5 hi;subst o3;have H:=Hr3;clear Hr3;try dsimp only at H
 try dsimp only
 revert H;refine bs fun o5 H Hr5=>?_
 refine aT (ι:=Bool) (fun i=>o5=i) (fun i=>[(2,aJ i)]) (fun i=>[aA b1 25 [fI a0.Free,fSl aF a0.Defs,fSl aH a0.Code,fI a0.Main]]) ?_ ?_
 revert H;refine I6 (fun c9 H=>?_) fun c9 H=>?_
 revert H;refine B5 fun z5 h12 H=>?_
 revert H;refine B1 fun y8 h13 H=>?_
 refine Z7 ?_
 exact Tm (decide (y8.Op=16)) (ij H)
 refine Z12 ?_
 refine Z1 ?_
 exact Tm (false) (ij H)
 clear H;intro x11 hi;subst o5;have H:=Hr5;clear Hr5;try dsimp only at H
 try dsimp only
 refine Z1 ?_
 cases H
 refine aC [] (by decide) ?_
 exact To
def jU (a0:CodeProg):Nat → (List Bool) → Int → Int → Option ((List Bool × Int) ⊕ (Bool))
| 0,_,_,_=>none
| k+1,x6,x7,x8=>
 if x8<(a0.Code.length:Int)then
  ((idx a0.Code x8).bind fun y2=>
  if y2.Op=11 then
   (idx a0.Code x8).bind fun y3=>
   (idx x6 y3.A).bind fun y4=>
   bif y4 then
    ((some false).bind fun r=>some (Sum.inr r)).bind fun r=>some (Sum.inr r)
   else
    (idx a0.Code x8).bind fun y5=>
    (idx x6 y5.A).bind fun y6=>
    (chk (x7+1)).bind fun z1=>
    some (Sum.inl (x6.set y5.A.toNat true,z1))
  else
   some (Sum.inl (x6,x7))).bind fun o=>match o with
  | Sum.inr r=>some r
  | Sum.inl (x9,x10)=>
  (chk (x8+1)).bind fun z2=>
  jU a0 k x9 x10 z2
 else
  some (Sum.inl (x6,x7))
def vA (fuel:Nat) (a0:CodeProg):Option (Bool):=
 (mk false (a0.Defs.length:Int)).bind fun y1=>
 (jU a0 fuel y1 0 0).bind fun o=>match o with
 | Sum.inr r=>some r
 | Sum.inl (x1,x2)=>
 some (decide (x2=(x1.length:Int)))
theorem aHO (fuel:Nat)  (a0:CodeProg) (r:Bool) (H:vA fuel a0=some r):FnS Tryz.prog 79 [fSt fR a0] [] (aJ r) (fun _=>[]):=by
 unfold vA at H
 refine cD Tryz.func79 rfl Tryz.ntmps79 rfl (fun β=>?_)
 refine Z1 ?_
 refine Tn (cG rfl hh bP) fun b1=>?_
 revert H;refine B6 fun y1 h1 H=>?_
 refine Tn (zD (t:=fW) (z:=false) rfl hh (et rfl) rfl zR rfl h1) fun b2=>?_
 generalize (Value.slice (some ⟨b2,0,none⟩) _ _)=v1
 refine aB 0 rfl (fun hc_v1=>?_)
 revert H;refine B5 fun o1 H Hr1=>?_
 refine aT (ι:=List Bool × Int) (fun i=>o1=Sum.inl (i.1,i.2)) (fun i=>[(3,fEq v1),(4,fI i.2)]) (fun i=>[aA b1 25 [fI a0.Free,fSl aF a0.Defs,fSl aH a0.Code,fI a0.Main],aD v1 4 fW i.1]) ?_ ?_
 refine Z4 ?_
 refine aC [1,0] (by decide) ?_
 refine Tl (ι:=Nat × List Bool × Int × Int) (fun i=>jU a0 i.1 i.2.1 i.2.2.1 i.2.2.2=_) (fun i=>i.1) (fun i=>[(1,fEq (ptr b1)),(3,fEq v1),(4,fI i.2.2.1),(5,fI i.2.2.2)]) (fun i=>[aA b1 25 [fI a0.Free,fSl aF a0.Defs,fSl aH a0.Code,fI a0.Main],aD v1 4 fW i.2.1]) (fuel,y1,0,0) H ?_
 clear H;rintro⟨k1,x6,x7,x8⟩ H
 replace H:jU a0 k1 x6 x7 x8=_:=H
 try dsimp only
 obtain _ | k1:=k1
 rw [jU]at H;cases H
 rw [jU]at H
 refine aL ?_
 revert H;refine I7 (fun c1 H=>?_) fun c1 H=>?_
 revert H;refine B3 fun o2 H Hr2=>?_
 refine aT (ι:=List Bool × Int) (fun i=>o2=Sum.inl (i.1,i.2)) (fun i=>[(1,fEq (ptr b1)),(3,fEq v1),(4,fI i.2),(5,fI x8)]) (fun i=>[aA b1 25 [fI a0.Free,fSl aF a0.Defs,fSl aH a0.Code,fI a0.Main],aD v1 4 fW i.1]) ?_ ?_
 revert H;refine B5 fun y2 h2 H=>?_
 revert H;refine I5 (fun c2 H=>?_) fun c2 H=>?_
 refine Z1 ?_
 refine aL ?_
 revert H;refine B5 fun y3 h3 H=>?_
 revert H;refine B3 fun y4 h4 H=>?_
 refine Z1 ?_
 refine Yo 1 rfl (kK rfl rfl hh (sc rfl) (cU h4) rfl) ?_
 refine Z1 ?_
 revert H;refine cs (fun c3 H=>?_) fun c3 H=>?_
 revert H;refine B7 fun r1 H e1=>?_
 cases e1;cases Hr2
 revert H;refine B3 fun r2 H e2=>?_
 cases e2;cases Hr1
 cases H
 refine aC [] (by decide) ?_
 exact To
 revert H;refine B8 fun y5 h5 H=>?_
 revert H;refine B3 fun y6 h6 H=>?_
 refine Z1 ?_
 refine aP ?_
 refine aAe (z':=true) trivial rfl rfl rfl (has rfl) (has rfl) (aG trivial) (sz rfl) (cU h6) rfl rfl ?_
 revert H;refine B3 fun z1 h7 H=>?_
 refine Z5 ?_
 refine aC [1,0] (by decide) ?_
 exact Tm ((x6.set y5.A.toNat true,z1)) (ij H)
 refine Z4 ?_
 exact Tm ((x6,x7)) (ij H)
 clear H;intro i hi;obtain⟨x9,x10⟩:=i;subst o2;have H:=Hr2;clear Hr2;try dsimp only at H
 try dsimp only
 revert H;refine B2 fun z2 h8 H=>?_
 refine Z3 ?_
 exact Tm ((k1,x9,x10,z2)) ⟨H,ls⟩
 refine Z6 ?_
 exact Tm ((x6,x7)) (ij H)
 clear H;intro i hi;obtain⟨x1,x2⟩:=i;subst o1;have H:=Hr1;clear Hr1;try dsimp only at H
 try dsimp only
 refine Z8 ?_
 cases H
 refine aC [] (by decide) ?_
 exact To
open Go.SX Go.SW Go.Dt
def nN (fuel:Nat) (a0:CodeProg):Nat → Int → Option ((Unit) ⊕ (Bool))
| 0,_=>none
| k+1,x2=>
 if x2<(a0.Defs.length:Int)then
  (idx a0.Defs x2).bind fun y1=>
  (vC fuel y1).bind fun y2=>
  bif y2 then
   (chk (x2+1)).bind fun z1=>
   nN fuel a0 k z1
  else
   (some false).bind fun r=>some (Sum.inr r)
 else
  some (Sum.inl ())
def mB (fuel:Nat) (a0:CodeProg):Nat → Int → Option ((Unit) ⊕ (Bool))
| 0,_=>none
| k+1,x4=>
 if x4<(a0.Code.length:Int)then
  (tF fuel (⟨a0.Free,a0.Defs,a0.Code,a0.Main⟩:CodeProg) x4).bind fun y3=>
  bif y3 then
   (chk (x4+1)).bind fun z2=>
   mB fuel a0 k z2
  else
   (some false).bind fun r=>some (Sum.inr r)
 else
  some (Sum.inl ())
def uY (fuel:Nat) (a0:CodeProg):Option (Bool):=
 if a0.Free<0 then
  some false
 else
  if 12<a0.Free then
   some false
  else
   if 12<(a0.Defs.length:Int)then
    some false
   else
    if (a0.Code.length:Int)<1 then
     some false
    else
     if 12000<(a0.Code.length:Int)then
      some false
     else
      (nN fuel a0 fuel 0).bind fun o=>match o with
      | Sum.inr r=>some r
      | Sum.inl _=>
      (mB fuel a0 fuel 0).bind fun o=>match o with
      | Sum.inr r=>some r
      | Sum.inl _=>
      ((vU fuel (⟨a0.Free,a0.Defs,a0.Code,a0.Main⟩:CodeProg)).bind fun y4=>
      bif y4 then
       (vA fuel (⟨a0.Free,a0.Defs,a0.Code,a0.Main⟩:CodeProg)).bind fun y5=>
       some y5
      else
       some false).bind fun x5=>
      some x5
theorem aGc (fuel:Nat)  (a0:CodeProg) (r:Bool) (H:uY fuel a0=some r):FnS Tryz.prog 32 [fSt fR a0] [] (aJ r) (fun _=>[]):=by
 unfold uY at H
 refine cD Tryz.func32 rfl Tryz.ntmps32 rfl (fun β=>?_)
 refine Z1 ?_
 refine Tn (cG rfl hh bP) fun b1=>?_
 refine Z2 ?_
 refine aL ?_
 revert H;refine I5 (fun c1 H=>?_) fun c1 H=>?_
 refine Z12 ?_
 refine Z12 ?_
 refine Z4 ?_
 cases H
 refine aC [] (by decide) ?_
 exact To
 revert H;refine I5 (fun c2 H=>?_) fun c2 H=>?_
 refine Z12 ?_
 refine Z11 ?_
 cases H
 refine aC [] (by decide) ?_
 exact To
 revert H;refine I6 (fun c3 H=>?_) fun c3 H=>?_
 refine Z12 ?_
 refine Z5 ?_
 cases H
 refine aC [] (by decide) ?_
 exact To
 revert H;refine I6 (fun c4 H=>?_) fun c4 H=>?_
 refine Z11 ?_
 cases H
 refine aC [] (by decide) ?_
 exact To
 revert H;refine I6 (fun c5 H=>?_) fun c5 H=>?_
 refine Z5 ?_
 cases H
 refine aC [] (by decide) ?_
 exact To
 revert H;refine B3 fun o1 H Hr1=>?_
 refine aT (ι:=Unit) (fun i=>o1=Sum.inl ()) (fun i=>[(1,fEq (ptr b1))]) (fun i=>[aA b1 25 [fI a0.Free,fSl aF a0.Defs,fSl aH a0.Code,fI a0.Main]]) ?_ ?_
 refine Z4 ?_
 refine Tl (ι:=Nat × Int) (fun i=>nN fuel a0 i.1 i.2=_) (fun i=>i.1) (fun i=>[(1,fEq (ptr b1)),(3,fI i.2)]) (fun i=>[aA b1 25 [fI a0.Free,fSl aF a0.Defs,fSl aH a0.Code,fI a0.Main]]) (fuel,0) H ?_
 clear H;rintro⟨k1,x2⟩ H
 replace H:nN fuel a0 k1 x2=_:=H
 try dsimp only
 obtain _ | k1:=k1
 rw [nN]at H;cases H
 rw [nN]at H
 refine aL ?_
 revert H;refine I7 (fun c6 H=>?_) fun c6 H=>?_
 refine Z3 ?_
 refine aL ?_
 revert H;refine B5 fun y1 h1 H=>?_
 revert H;refine B2 fun y2 h2 H=>?_
 refine Tc (aFI _ _ _ h2) ?_
 refine Z2 ?_
 revert H;refine cs (fun c7 H=>?_) fun c7 H=>?_
 revert H;refine B6 fun z1 h3 H=>?_
 refine Z3 ?_
 exact Tm ((k1,z1)) ⟨H,ls⟩
 revert H;refine B10 fun r1 H e1=>?_
 cases e1;cases Hr1
 cases H
 refine aC [] (by decide) ?_
 exact To
 refine Z6 ?_
 exact Tm (()) (ij H)
 clear H;intro i hi;subst o1;have H:=Hr1;clear Hr1;try dsimp only at H
 try dsimp only
 revert H;refine bs fun o2 H Hr2=>?_
 refine aT (ι:=Unit) (fun i=>o2=Sum.inl ()) (fun i=>[(1,fEq (ptr b1))]) (fun i=>[aA b1 25 [fI a0.Free,fSl aF a0.Defs,fSl aH a0.Code,fI a0.Main]]) ?_ ?_
 refine Z4 ?_
 refine Tl (ι:=Nat × Int) (fun i=>mB fuel a0 i.1 i.2=_) (fun i=>i.1) (fun i=>[(1,fEq (ptr b1)),(4,fI i.2)]) (fun i=>[aA b1 25 [fI a0.Free,fSl aF a0.Defs,fSl aH a0.Code,fI a0.Main]]) (fuel,0) H ?_
 clear H;rintro⟨k2,x4⟩ H
 replace H:mB fuel a0 k2 x4=_:=H
 try dsimp only
 obtain _ | k2:=k2
 rw [mB]at H;cases H
 rw [mB]at H
 refine aL ?_
 revert H;refine I7 (fun c8 H=>?_) fun c8 H=>?_
 refine Z3 ?_
 refine aL ?_
 revert H;refine B4 fun y3 h4 H=>?_
 refine Tc (aGR _ _ _ _ h4) ?_
 refine Z2 ?_
 revert H;refine cs (fun c9 H=>?_) fun c9 H=>?_
 revert H;refine B6 fun z2 h5 H=>?_
 refine Z3 ?_
 exact Tm ((k2,z2)) ⟨H,ls⟩
 revert H;refine B10 fun r2 H e2=>?_
 cases e2;cases Hr2
 cases H
 refine aC [] (by decide) ?_
 exact To
 refine Z6 ?_
 exact Tm (()) (ij H)
 clear H;intro i hi;subst o2;have H:=Hr2;clear Hr2;try dsimp only at H
 try dsimp only
 revert H;refine bs fun o3 H Hr3=>?_
 refine aT (ι:=Bool) (fun i=>o3=i) (fun i=>[(2,aJ i)]) (fun i=>[aA b1 25 [fI a0.Free,fSl aF a0.Defs,fSl aH a0.Code,fI a0.Main]]) ?_ ?_
 revert H;refine B2 fun y4 h6 H=>?_
 refine Tc (aFA _ _ _ h6) ?_
 refine Z1 ?_
 revert H;refine cs (fun c10 H=>?_) fun c10 H=>?_
 revert H;refine B1 fun y5 h7 H=>?_
 refine Tc (aHO _ _ _ h7) ?_
 refine Z3 ?_
 exact Tm (y5) (ij H)
 refine Z5 ?_
 exact Tm (false) (ij H)
 clear H;intro x5 hi;subst o3;have H:=Hr3;clear Hr3;try dsimp only at H
 try dsimp only
 refine Z1 ?_
 cases H
 refine aC [] (by decide) ?_
 exact To
def fT (a0:Ref09_flow) (a1:Int) (a2:Int) (a3:Int):Option (Ref09_flow):=
 (idx a0.levels a1).bind fun y1=>
 if y1.Stack<0 then
  (idx a0.levels a1).bind fun y2=>
  (dB (a0.wait++[a1])).bind fun z1=>
  some (⟨a0.levels.set a1.toNat (⟨a2,a3⟩:CodeLevel),z1,a0.wrong⟩:Ref09_flow)
 else
  bif a0.wrong then
   some (⟨a0.levels,a0.wait,true⟩:Ref09_flow)
  else
   (idx a0.levels a1).bind fun y3=>
   some (⟨a0.levels,a0.wait,!(decide (y3.Stack=a2) && decide (y3.Slots=a3))⟩:Ref09_flow)
theorem iK (p0:Nat) (a0:Ref09_flow) (a1:Int) (a2:Int) (a3:Int) (r:Ref09_flow) (H:fT a0 a1 a2 a3=some r):FnS Tryz.prog 33 [fEq (.pointer (some ⟨p0,0,none⟩)),fI a1,fI a2,fI a3] [oT p0 a0] (dJ []) (fun _=>[oT p0 r]):=by
 unfold fT at H
 refine cD Tryz.func33 rfl Tryz.ntmps33 rfl (fun β=>?_)
 refine fJ (fun v1 v2=>?_)
 refine aB 1 rfl (fun hc_v1=>?_)
 refine aB 2 rfl (fun hc_v2=>?_)
 refine aL ?_
 revert H;refine B6 fun y1 h1 H=>?_
 refine Z1 ?_
 refine Yy (zT 0 rfl hh (fa rfl) rfl) ?_
 refine Yo 1 rfl (kK rfl rfl hh (sc rfl) (cU h1) rfl) ?_
 revert H;refine I2 (fun c1 H=>?_) fun c1 H=>?_
 refine Z9 ?_
 refine Yy (eS (ψs:=[fI a2,fI a3]) rfl pM rfl (aZ.cons (has rfl) (bY (aG trivial)) (aZ.cons (has rfl) (bY (aG trivial)) aZ.nil)) rfl) ?_
 revert H;refine bs fun y2 h2 H=>?_
 refine Z1 ?_
 refine aP ?_
 refine aEG (z:=(⟨a2,a3⟩:CodeLevel)) trivial rfl rfl rfl (has rfl) (has rfl) (sz rfl) (List.getElem?_eq_some_iff.1 (cU h2)).1 ?_
 refine Z8 ?_
 refine Tn (eQ (t:=tI) (xs:=[a1]) rfl (et rfl) (bS.cons rfl (has rfl) (bY (aG trivial)) bS.nil) rfl rfl rfl) fun b1=>?_
 generalize (Value.slice (some ⟨b1,0,none⟩) _ _)=v3
 refine aB 0 rfl (fun hc_v3=>?_)
 revert H;refine bs fun z1 h3 H=>?_
 refine bC ?_
 refine aP ?_
 refine gJ trivial rfl rfl rfl (has rfl) (has rfl) (et rfl) rfl h3 (fun v4=>?_)
 refine aB 0 rfl (fun hc_v4=>?_)
 refine Z2 ?_
 refine aO ?_
 refine bW (φs':=[fEq v1,fEq v4,aJ a0.wrong]) trivial rfl rfl (has rfl) (has rfl) (aG hc_v4) (sz rfl) rfl rfl ?_
 refine Z2 ?_
 refine aP ?_
 refine aO ?_
 refine aO ?_
 refine cQ (x:=(⟨a0.levels.set a1.toNat (⟨a2,a3⟩:CodeLevel),z1,a0.wrong⟩:Ref09_flow)) ?_
 cases H
 exact cJ (.inl rfl) rfl rfl
 refine Z10 ?_
 revert H;refine cs (fun c2 H=>?_) fun c2 H=>?_
 refine Z12 ?_
 refine Z2 ?_
 refine bW (φs':=[fEq v1,fEq v2,aJ true]) trivial rfl rfl (has rfl) (has rfl) (aG trivial) (sz rfl) rfl rfl ?_
 refine Z1 ?_
 refine cQ (x:=(⟨a0.levels,a0.wait,true⟩:Ref09_flow)) ?_
 cases H
 exact cJ (.inr rfl) rfl rfl
 revert H;refine B5 fun y3 h4 H=>?_
 refine Z1 ?_
 refine Yh 1 rfl c2 (rD rfl rfl hh (ag rfl) (cU h4)) ?_
 refine Z2 ?_
 refine Yg c2 (eS (ψs:=[fI a2,fI a3]) rfl pM rfl (aZ.cons (has rfl) (bY (aG trivial)) (aZ.cons (has rfl) (bY (aG trivial)) aZ.nil)) rfl) ?_
 refine Yg c2 (aDj (t:=bA) (u:=y3) (v:=(⟨a2,a3⟩:CodeLevel)) rfl hh hh rfl rfl aCu) ?_
 refine Z3 ?_
 refine bW (φs':=[fEq v1,fEq v2,aJ (!(decide (y3.Stack=a2) && decide (y3.Slots=a3)))]) trivial rfl rfl (has rfl) (has rfl) (aG trivial) (sz rfl) rfl rfl ?_
 refine Z1 ?_
 refine cQ (x:=(⟨a0.levels,a0.wait,!(decide (y3.Stack=a2) && decide (y3.Slots=a3))⟩:Ref09_flow)) ?_
 cases H
 exact cJ (.inr rfl) rfl rfl
def tA (a0:Int):Option (Bool):=
 (if 3 ≤ a0 then
  some (decide (a0 ≤ 7))
 else
  some false).bind fun x1=>
 some x1
theorem aHo  (a0:Int) (r:Bool) (H:tA a0=some r):FnS Tryz.prog 80 [fI a0] [] (aJ r) (fun _=>[]):=by
 unfold tA at H
 refine cD Tryz.func80 rfl Tryz.ntmps80 rfl (fun β=>?_)
 revert H;refine B3 fun o1 H Hr1=>?_
 refine aT (ι:=Bool) (fun i=>o1=i) (fun i=>[(2,aJ i)]) (fun i=>[]) ?_ ?_
 revert H;refine I4 (fun c1 H=>?_) fun c1 H=>?_
 refine Z5 ?_
 exact Tm (decide (a0 ≤ 7)) (ij H)
 refine Z5 ?_
 exact Tm (false) (ij H)
 clear H;intro x1 hi;subst o1;have H:=Hr1;clear Hr1;try dsimp only at H
 try dsimp only
 refine Z1 ?_
 cases H
 exact To
def lU (a1:ScopeDef) (z2:Int):Nat → Int → (List CodeLevel) → (List Int) → Bool → Option (List CodeLevel × List Int × Bool)
| 0,_,_,_,_=>none
| k+1,x8,x9,x10,x11=>
 if x8<(a1.Spots.length:Int)then
  (idx a1.Spots x8).bind fun y1=>
  (fT (⟨x9,x10,x11⟩:Ref09_flow) y1.Node 0 z2).bind fun y2=>
  (chk (x8+1)).bind fun z3=>
  lU a1 z2 k z3 y2.levels y2.wait y2.wrong
 else
  some (x9,x10,x11)
def nG (a1:ScopeDef) (x16:Int):Nat → Int → Int → Option (Int)
| 0,_,_=>none
| k+1,x26,x27=>
 (idx a1.Rules x16).bind fun y3=>
 if x27<(y3.Joins.length:Int)then
  (idx a1.Rules x16).bind fun y4=>
  (idx y4.Joins x27).bind fun y5=>
  (idx a1.Chans y5).bind fun y6=>
  (chk (x26+y6.Many)).bind fun z4=>
  (chk (x27+1)).bind fun z5=>
  nG a1 x16 k z4 z5
 else
  some x26
def nS (fuel:Nat) (a1:ScopeDef) (z2:Int):Nat → Int → (List CodeLevel) → (List Int) → Bool → Option (Ref09_flow)
| 0,_,_,_,_=>none
| k+1,x16,x17,x18,x19=>
 if x16<(a1.Rules.length:Int)then
  ((nG a1 x16 fuel z2 0).bind fun x23=>
  (idx a1.Rules x16).bind fun y7=>
  (fT (⟨x17,x18,x19⟩:Ref09_flow) y7.Node 0 x23).bind fun y8=>
  some (y8.levels,y8.wait,y8.wrong)).bind fun (x20,x21,x22)=>
  (chk (x16+1)).bind fun z6=>
  nS fuel a1 z2 k z6 x20 x21 x22
 else
  some (⟨x17,x18,x19⟩:Ref09_flow)
def vT (fuel:Nat) (a0:Ref09_flow) (a1:ScopeDef) (a2:Int):Option (Ref09_flow):=
 (chk (a2+(a1.Chans.length:Int))).bind fun z1=>
 (chk (z1+(a1.Spots.length:Int))).bind fun z2=>
 (lU a1 z2 fuel 0 a0.levels a0.wait a0.wrong).bind fun (x1,x2,x3)=>
 nS fuel a1 z2 fuel 0 x1 x2 x3
theorem aGS (fuel:Nat) (p0:Nat) (a0:Ref09_flow) (a1:ScopeDef) (a2:Int) (r:Ref09_flow) (H:vT fuel a0 a1 a2=some r):FnS Tryz.prog 81 [fEq (.pointer (some ⟨p0,0,none⟩)),fSt aF a1,fI a2] [oT p0 a0] (dJ []) (fun _=>[oT p0 r]):=by
 unfold vT at H
 refine cD Tryz.func81 rfl Tryz.ntmps81 rfl (fun β=>?_)
 refine fJ (fun v1 v2=>?_)
 refine aB 1 rfl (fun hc_v1=>?_)
 refine aB 2 rfl (fun hc_v2=>?_)
 refine Z1 ?_
 refine Tn (cG rfl hh bP) fun b1=>?_
 revert H;refine B6 fun z1 h1 H=>?_
 revert H;refine B4 fun z2 h2 H=>?_
 revert H;refine B3 fun o1 H Hr1=>?_
 refine aT (ι:=List CodeLevel × List Int × Bool × Value × Value) (fun i=>o1=(i.1,i.2.1,i.2.2.1)) (fun i=>[(0,fEq (ptr p0)),(2,fI z2),(4,fEq (ptr b1))]) (fun i=>[aA b1 63 [fSl bG a1.Chans,fSl bQ a1.Spots,fSl bR a1.Rules],aA p0 93 [fEq i.2.2.2.1,fEq i.2.2.2.2,aJ i.2.2.1],aD i.2.2.2.1 79 bA i.1,aD i.2.2.2.2 3 tI i.2.1]) ?_ ?_
 refine Z4 ?_
 refine Tl (ι:=Nat × Int × List CodeLevel × List Int × Bool × Value × Value) (fun i=>lU a1 z2 i.1 i.2.1 i.2.2.1 i.2.2.2.1 i.2.2.2.2.1=_) (fun i=>i.1) (fun i=>[(0,fEq (ptr p0)),(2,fI z2),(4,fEq (ptr b1)),(6,fI i.2.1)]) (fun i=>[aA b1 63 [fSl bG a1.Chans,fSl bQ a1.Spots,fSl bR a1.Rules],aA p0 93 [fEq i.2.2.2.2.2.1,fEq i.2.2.2.2.2.2,aJ i.2.2.2.2.1],aD i.2.2.2.2.2.1 79 bA i.2.2.1,aD i.2.2.2.2.2.2 3 tI i.2.2.2.1]) (fuel,0,a0.levels,a0.wait,a0.wrong,v1,v2) H ?_
 clear H;rintro⟨k1,x8,x9,x10,x11,v7,v8⟩ H
 replace H:lU a1 z2 k1 x8 x9 x10 x11=_:=H
 try dsimp only
 obtain _ | k1:=k1
 rw [lU]at H;cases H
 rw [lU]at H
 refine aB 2 rfl (fun hc_v7=>?_)
 refine aB 3 rfl (fun hc_v8=>?_)
 refine aL ?_
 revert H;refine I7 (fun c1 H=>?_) fun c1 H=>?_
 refine Z3 ?_
 refine aL ?_
 revert H;refine B6 fun y1 h3 H=>?_
 refine Z4 ?_
 refine bC ?_
 refine bC ?_
 refine bC ?_
 refine cQ (x:=(⟨x9,x10,x11⟩:Ref09_flow)) ?_
 revert H;refine bs fun y2 h4 H=>?_
 refine Tc (iK _ _ _ _ _ _ h4) ?_
 refine fJ (fun v9 v10=>?_)
 refine aB 1 rfl (fun hc_v9=>?_)
 refine aB 2 rfl (fun hc_v10=>?_)
 revert H;refine B5 fun z3 h5 H=>?_
 refine Z3 ?_
 refine aC [3,0,1,2] (by decide) ?_
 exact Tm ((k1,z3,y2.levels,y2.wait,y2.wrong,v9,v10)) ⟨H,ls⟩
 refine Z6 ?_
 exact Tm ((x9,x10,x11,v7,v8)) (ij H)
 clear H;intro i hi;obtain⟨x1,x2,x3,v3,v4⟩:=i;subst o1;have H:=Hr1;clear Hr1;try dsimp only at H
 try dsimp only
 refine aB 2 rfl (fun hc_v3=>?_)
 refine aB 3 rfl (fun hc_v4=>?_)
 refine Z4 ?_
 refine Tl (ι:=Nat × Int × List CodeLevel × List Int × Bool × Value × Value) (fun i=>nS fuel a1 z2 i.1 i.2.1 i.2.2.1 i.2.2.2.1 i.2.2.2.2.1=_) (fun i=>i.1) (fun i=>[(0,fEq (ptr p0)),(2,fI z2),(4,fEq (ptr b1)),(7,fI i.2.1)]) (fun i=>[aA b1 63 [fSl bG a1.Chans,fSl bQ a1.Spots,fSl bR a1.Rules],aA p0 93 [fEq i.2.2.2.2.2.1,fEq i.2.2.2.2.2.2,aJ i.2.2.2.2.1],aD i.2.2.2.2.2.1 79 bA i.2.2.1,aD i.2.2.2.2.2.2 3 tI i.2.2.2.1]) (fuel,0,x1,x2,x3,v3,v4) H ?_
 clear H;rintro⟨k2,x16,x17,x18,x19,v13,v14⟩ H
 replace H:nS fuel a1 z2 k2 x16 x17 x18 x19=_:=H
 try dsimp only
 obtain _ | k2:=k2
 rw [nS]at H;cases H
 rw [nS]at H
 refine aB 2 rfl (fun hc_v13=>?_)
 refine aB 3 rfl (fun hc_v14=>?_)
 refine aL ?_
 revert H;refine I7 (fun c2 H=>?_) fun c2 H=>?_
 revert H;refine B3 fun o2 H Hr2=>?_
 refine aT (ι:=List CodeLevel × List Int × Bool × Value × Value) (fun i=>o2=(i.1,i.2.1,i.2.2.1)) (fun i=>[(0,fEq (ptr p0)),(2,fI z2),(4,fEq (ptr b1)),(7,fI x16)]) (fun i=>[aA p0 93 [fEq i.2.2.2.1,fEq i.2.2.2.2,aJ i.2.2.1],aA b1 63 [fSl bG a1.Chans,fSl bQ a1.Spots,fSl bR a1.Rules],aD i.2.2.2.1 79 bA i.1,aD i.2.2.2.2 3 tI i.2.1]) ?_ ?_
 revert H;refine B5 fun o3 H Hr3=>?_
 refine aT (ι:=Int) (fun i=>o3=i) (fun i=>[(0,fEq (ptr p0)),(2,fI z2),(4,fEq (ptr b1)),(7,fI x16),(8,fI i)]) (fun i=>[aA b1 63 [fSl bG a1.Chans,fSl bQ a1.Spots,fSl bR a1.Rules],aA p0 93 [fEq v13,fEq v14,aJ x19],aD v13 79 bA x17,aD v14 3 tI x18]) ?_ ?_
 refine Z4 ?_
 refine Tl (ι:=Nat × Int × Int) (fun i=>nG a1 x16 i.1 i.2.1 i.2.2=_) (fun i=>i.1) (fun i=>[(0,fEq (ptr p0)),(2,fI z2),(4,fEq (ptr b1)),(7,fI x16),(8,fI i.2.1),(9,fI i.2.2)]) (fun i=>[aA b1 63 [fSl bG a1.Chans,fSl bQ a1.Spots,fSl bR a1.Rules],aA p0 93 [fEq v13,fEq v14,aJ x19],aD v13 79 bA x17,aD v14 3 tI x18]) (fuel,z2,0) H ?_
 clear H;rintro⟨k3,x26,x27⟩ H
 replace H:nG a1 x16 k3 x26 x27=_:=H
 try dsimp only
 obtain _ | k3:=k3
 rw [nG]at H;cases H
 rw [nG]at H
 refine aL ?_
 revert H;refine B5 fun y3 h6 H=>?_
 revert H;refine I6 (fun c3 H=>?_) fun c3 H=>?_
 refine Z3 ?_
 refine aL ?_
 revert H;refine B1 fun y4 h7 H=>?_
 revert H;refine bs fun y5 h8 H=>?_
 revert H;refine bs fun y6 h9 H=>?_
 revert H;refine bs fun z4 h10 H=>?_
 apply bO (ods:=[_,_,_,_,_,_,_,_,_,_,_,_,_,_,_,_,_]) 17 0 4 bM rfl rfl rfl
 refine ND ?_
 refine M8 ?_
 intros
 refine M8 ?_
 intros
 refine M1 ?_
 intros
 revert H;refine B6 fun z5 h11 H=>?_
 refine Z3 ?_
 exact Tm ((k3,z4,z5)) ⟨H,ls⟩
 exact fk
 kernel_rfl
 refine Z6 ?_
 exact Tm (x26) (ij H)
 clear H;intro x23 hi;subst o3;have H:=Hr3;clear Hr3;try dsimp only at H
 try dsimp only
 revert H;refine B5 fun y7 h12 H=>?_
 refine Z4 ?_
 refine bC ?_
 refine bC ?_
 refine bC ?_
 refine cQ (x:=(⟨x17,x18,x19⟩:Ref09_flow)) ?_
 revert H;refine bs fun y8 h13 H=>?_
 refine Tc (iK _ _ _ _ _ _ h13) ?_
 refine fJ (fun v17 v18=>?_)
 refine aB 1 rfl (fun hc_v17=>?_)
 refine aB 2 rfl (fun hc_v18=>?_)
 refine Z3 ?_
 refine aC [0,3,1,2] (by decide) ?_
 exact Tm ((y8.levels,y8.wait,y8.wrong,v17,v18)) (ij H)
 clear H;intro i hi;obtain⟨x20,x21,x22,v15,v16⟩:=i;subst o2;have H:=Hr2;clear Hr2;try dsimp only at H
 try dsimp only
 refine aB 2 rfl (fun hc_v15=>?_)
 refine aB 3 rfl (fun hc_v16=>?_)
 revert H;refine B2 fun z6 h14 H=>?_
 refine Z3 ?_
 refine aC [1,0,2,3] (by decide) ?_
 exact Tm ((k2,z6,x20,x21,x22,v15,v16)) ⟨H,ls⟩
 refine Z5 ?_
 refine bC ?_
 refine bC ?_
 refine bC ?_
 refine cQ (x:=(⟨x17,x18,x19⟩:Ref09_flow)) ?_
 cases H
 refine aC [0] (by decide) ?_
 exact cJ (.inr rfl) rfl rfl
open Go.SX Go.SW Go.Dt
def oU (fuel:Nat) (a0:Ref09_flow) (a1:CodeProg) (a2:Int):Option (Ref09_flow):=
 (idx a0.levels a2).bind fun y1=>
 (idx a0.levels a2).bind fun y2=>
 (idx a1.Code a2).bind fun y3=>
 ((tA y3.Op).bind fun y4=>
 bif y4 then
  some 2
 else
  if y3.Op=9 then
   some 1
  else
   if y3.Op=8 then
    some y3.B
   else
    some 0).bind fun x1=>
 ((pC y3.Op).bind fun y5=>
 bif y5 then
  some true
 else
  if y3.Op=14 then
   some true
  else
   if y3.Op=11 then
    some true
   else
    some (decide (y3.Op=16))).bind fun x2=>
 ((pC y3.Op).bind fun y6=>
 bif y6 then
  some true
 else
  if y3.Op=2 then
   some true
  else
   some (decide (y3.Op=8))).bind fun x3=>
 (if y1.Stack<x1 then
  (some (⟨a0.levels,a0.wait,true⟩:Ref09_flow)).bind fun r=>some (Sum.inr r)
 else
  bif x2 then
   if 0<y1.Stack then
    (some (⟨a0.levels,a0.wait,true⟩:Ref09_flow)).bind fun r=>some (Sum.inr r)
   else
    bif x3 then
     if y2.Slots ≤ y3.A then
      (some (⟨a0.levels,a0.wait,true⟩:Ref09_flow)).bind fun r=>some (Sum.inr r)
     else
      if y3.Op=12 then
       if y2.Slots<y3.A then
        (some (⟨a0.levels,a0.wait,true⟩:Ref09_flow)).bind fun r=>some (Sum.inr r)
       else
        some (Sum.inl ())
      else
       some (Sum.inl ())
    else
     if y3.Op=12 then
      if y2.Slots<y3.A then
       (some (⟨a0.levels,a0.wait,true⟩:Ref09_flow)).bind fun r=>some (Sum.inr r)
      else
       some (Sum.inl ())
     else
      some (Sum.inl ())
  else
   bif x3 then
    if y2.Slots ≤ y3.A then
     (some (⟨a0.levels,a0.wait,true⟩:Ref09_flow)).bind fun r=>some (Sum.inr r)
    else
     if y3.Op=12 then
      if y2.Slots<y3.A then
       (some (⟨a0.levels,a0.wait,true⟩:Ref09_flow)).bind fun r=>some (Sum.inr r)
      else
       some (Sum.inl ())
     else
      some (Sum.inl ())
   else
    if y3.Op=12 then
     if y2.Slots<y3.A then
      (some (⟨a0.levels,a0.wait,true⟩:Ref09_flow)).bind fun r=>some (Sum.inr r)
     else
      some (Sum.inl ())
    else
     some (Sum.inl ())).bind fun o=>match o with
 | Sum.inr r=>some r
 | Sum.inl _=>
 (if y3.Op=1 then
  some (decide (y3.Op=1))
 else
  some (decide (y3.Op=2))).bind fun x4=>
 bif x4 then
  (chk (a2+1)).bind fun z1=>
  (chk (y1.Stack+1)).bind fun z2=>
  (fT (⟨a0.levels,a0.wait,a0.wrong⟩:Ref09_flow) z1 z2 y2.Slots).bind fun y7=>
  some (⟨y7.levels,y7.wait,y7.wrong⟩:Ref09_flow)
 else
  if y3.Op=8 then
   (chk (a2+1)).bind fun z3=>
   (chk (y1.Stack - y3.B)).bind fun z4=>
   (fT (⟨a0.levels,a0.wait,a0.wrong⟩:Ref09_flow) z3 z4 y2.Slots).bind fun y8=>
   some (⟨y8.levels,y8.wait,y8.wrong⟩:Ref09_flow)
  else
   if y3.Op=9 then
    (chk (a2+1)).bind fun z5=>
    (chk (y1.Stack - 1)).bind fun z6=>
    (fT (⟨a0.levels,a0.wait,a0.wrong⟩:Ref09_flow) z5 z6 y2.Slots).bind fun y9=>
    (chk (y1.Stack - 1)).bind fun z7=>
    (fT (⟨y9.levels,y9.wait,y9.wrong⟩:Ref09_flow) y3.A z7 y2.Slots).bind fun y10=>
    some (⟨y10.levels,y10.wait,y10.wrong⟩:Ref09_flow)
   else
    if y3.Op=10 then
     (fT (⟨a0.levels,a0.wait,a0.wrong⟩:Ref09_flow) y3.A y1.Stack y2.Slots).bind fun y11=>
     some (⟨y11.levels,y11.wait,y11.wrong⟩:Ref09_flow)
    else
     if y3.Op=11 then
      (idx a1.Defs y3.A).bind fun y12=>
      (vT fuel (⟨a0.levels,a0.wait,a0.wrong⟩:Ref09_flow) y12 y2.Slots).bind fun y13=>
      (chk (a2+1)).bind fun z8=>
      (idx a1.Defs y3.A).bind fun y14=>
      (chk (y2.Slots+(y14.Chans.length:Int))).bind fun z9=>
      (idx a1.Defs y3.A).bind fun y15=>
      (chk (z9+(y15.Spots.length:Int))).bind fun z10=>
      (fT (⟨y13.levels,y13.wait,y13.wrong⟩:Ref09_flow) z8 y1.Stack z10).bind fun y16=>
      some (⟨y16.levels,y16.wait,y16.wrong⟩:Ref09_flow)
     else
      if y3.Op=12 then
       (chk (a2+1)).bind fun z11=>
       (fT (⟨a0.levels,a0.wait,a0.wrong⟩:Ref09_flow) z11 y1.Stack y3.A).bind fun y17=>
       some (⟨y17.levels,y17.wait,y17.wrong⟩:Ref09_flow)
      else
       (if y3.Op=13 then
        some (decide (y3.Op=13))
       else
        some (decide (y3.Op=15))).bind fun x5=>
       bif x5 then
        (fT (⟨a0.levels,a0.wait,a0.wrong⟩:Ref09_flow) y3.B 0 y2.Slots).bind fun y18=>
        (chk (a2+1)).bind fun z12=>
        (fT (⟨y18.levels,y18.wait,y18.wrong⟩:Ref09_flow) z12 y1.Stack y2.Slots).bind fun y19=>
        some (⟨y19.levels,y19.wait,y19.wrong⟩:Ref09_flow)
       else
        if y3.Op=14 then
         (chk (a2+1)).bind fun z13=>
         (fT (⟨a0.levels,a0.wait,a0.wrong⟩:Ref09_flow) z13 y1.Stack y2.Slots).bind fun y20=>
         some (⟨y20.levels,y20.wait,y20.wrong⟩:Ref09_flow)
        else
         if y3.Op=16 then
          some (⟨a0.levels,a0.wait,a0.wrong⟩:Ref09_flow)
         else
          (chk (a2+1)).bind fun z14=>
          (chk (y1.Stack - 1)).bind fun z15=>
          (fT (⟨a0.levels,a0.wait,a0.wrong⟩:Ref09_flow) z14 z15 y2.Slots).bind fun y21=>
          some (⟨y21.levels,y21.wait,y21.wrong⟩:Ref09_flow)
theorem aFX (fuel:Nat) (p0:Nat) (a0:Ref09_flow) (a1:CodeProg) (a2:Int) (r:Ref09_flow) (H:oU fuel a0 a1 a2=some r):FnS Tryz.prog 34 [fEq (.pointer (some ⟨p0,0,none⟩)),fSt fR a1,fI a2] [oT p0 a0] (dJ []) (fun _=>[oT p0 r]):=by
 unfold oU at H
 refine cD Tryz.func34 rfl Tryz.ntmps34 rfl (fun β=>?_)
 refine fJ (fun v1 v2=>?_)
 refine aB 1 rfl (fun hc_v1=>?_)
 refine aB 2 rfl (fun hc_v2=>?_)
 refine Z1 ?_
 refine fP trivial rfl rfl (cG rfl (has rfl) bP) (fun b1=>?_)
 refine Z1 ?_
 refine aL ?_
 revert H;refine bs fun y1 h1 H=>?_
 revert H;refine bs fun y2 h2 H=>?_
 apply bO (ods:=[_,_,_,_,_,_,_,_,_,_,_,_,_,_,_,_,_,_]) 18 0 4 bM rfl rfl rfl
 refine ND ?_
 refine M5 ?_
 intros
 refine Mo 2 rfl (tK rfl hh hh (el rfl) h1) fun _=>?_
 refine My (zT 0 rfl hh (fa rfl) rfl) fun _=>?_
 refine Mo 2 rfl (kK rfl rfl hh (sc rfl) (cU h1) rfl) fun _=>?_
 refine M5 ?_
 intros
 refine Mo 2 rfl (tK rfl hh hh (el rfl) h2) fun _=>?_
 refine My (zT 1 rfl hh (fa rfl) rfl) fun _=>?_
 refine Mo 2 rfl (kK rfl rfl hh (sc rfl) (cU h2) rfl) fun _=>?_
 refine M2 ?_
 intros
 refine Z6 ?_
 revert H;refine bs fun y3 h3 H=>?_
 refine Yy (cO rfl hh hh (el rfl) h3) ?_
 refine Z1 ?_
 refine fP trivial rfl rfl (cR rfl qK rfl) (fun b2=>?_)
 refine cW (φs':=[fI y3.Op,fI y3.A,fI y3.B]) trivial rfl rfl (has rfl) (has rfl) (aN (aG trivial) (aN (aG trivial) (aN (aG trivial) bZ))) (sz rfl) rfl rfl rfl ?_
 refine Z4 ?_
 revert H;refine bs fun o1 H Hr1=>?_
 refine aT (ι:=Int) (fun i=>o1=i) (fun i=>[(0,fEq (ptr p0)),(2,fI a2),(4,fEq (ptr b1)),(6,fI y1.Stack),(7,fI y2.Slots),(8,fEq (ptr b2)),(9,fI i)]) (fun i=>[aA b2 73 [fI y3.Op,fI y3.A,fI y3.B],aA b1 25 [fI a1.Free,fSl aF a1.Defs,fSl aH a1.Code,fI a1.Main],aA p0 93 [fEq v1,fEq v2,aJ a0.wrong],aD v1 79 bA a0.levels,aD v2 3 tI a0.wait]) ?_ ?_
 refine Z4 ?_
 revert H;refine bs fun y4 h4 H=>?_
 refine dE trivial rfl rfl rfl hh (aE.cons hh aE.nil) rfl (cb rfl) (aHo y3.Op y4 h4) rfl ?_
 refine Z2 ?_
 revert H;refine cs (fun c1 H=>?_) fun c1 H=>?_
 refine dH hh c1 ?_
 refine Z5 ?_
 exact bB (2) (Option.some.inj H).symm (Sc (Sc (Sc (Sc (Sc (Sc (Sc aV.nil))))))) rfl
 refine dG hh c1 ?_
 refine Z6 ?_
 revert H;refine is (fun c2 H=>?_) fun c2 H=>?_
 refine dH hh c2 ?_
 refine Z5 ?_
 exact bB (1) (Option.some.inj H).symm (Sc (Sc (Sc (Sc (Sc (Sc (Sc aV.nil))))))) rfl
 refine dG hh c2 ?_
 refine Z6 ?_
 revert H;refine is (fun c3 H=>?_) fun c3 H=>?_
 refine dH hh c3 ?_
 refine Z7 ?_
 exact bB (y3.B) (Option.some.inj H).symm (Sc (Sc (Sc (Sc (Sc (Sc (Sc aV.nil))))))) rfl
 refine dG hh c3 ?_
 refine Z3 ?_
 exact bB (0) (Option.some.inj H).symm (Sc (Sc (Sc (Sc (Sc (Sc (Sc aV.nil))))))) rfl
 clear H;intro x1 hi;subst o1;have H:=Hr1;clear Hr1;try dsimp only at H
 try dsimp only
 revert H;refine bs fun o2 H Hr2=>?_
 refine aT (ι:=Bool) (fun i=>o2=i) (fun i=>[(0,fEq (ptr p0)),(2,fI a2),(4,fEq (ptr b1)),(6,fI y1.Stack),(7,fI y2.Slots),(8,fEq (ptr b2)),(9,fI x1),(10,aJ i)]) (fun i=>[aA b2 73 [fI y3.Op,fI y3.A,fI y3.B],aA b1 25 [fI a1.Free,fSl aF a1.Defs,fSl aH a1.Code,fI a1.Main],aA p0 93 [fEq v1,fEq v2,aJ a0.wrong],aD v1 79 bA a0.levels,aD v2 3 tI a0.wait]) ?_ ?_
 refine Z3 ?_
 revert H;refine bs fun y5 h5 H=>?_
 refine dE trivial rfl rfl rfl hh (aE.cons hh aE.nil) rfl (cb rfl) (aAA y3.Op y5 h5) rfl ?_
 refine Z1 ?_
 revert H;refine cs (fun c4 H=>?_) fun c4 H=>?_
 refine Yt c4 ?_
 refine Yt c4 ?_
 refine Yt c4 ?_
 refine Yy (dM rfl hh c4 hh) ?_
 refine Z12 ?_
 exact bB (true) (Option.some.inj H).symm (Sc (Sc (Sc (Sc (Sc (Sc (Sc (Sc aV.nil)))))))) rfl
 refine Yg c4 (cT 0 rfl hh (fa rfl) rfl) ?_
 refine Yh 0 rfl c4 (cS rfl hh (sc rfl) rfl Ent.rfl) ?_
 refine Yg c4 (pK rfl hh hh) ?_
 refine Yy (cE rfl hh c4 hh) ?_
 refine Z1 ?_
 revert H;refine is (fun c5 H=>?_) fun c5 H=>?_
 refine Yt c5 ?_
 refine Yt c5 ?_
 refine Yt c5 ?_
 refine Yy (dM rfl hh c5 hh) ?_
 refine Z7 ?_
 exact bB (true) (Option.some.inj H).symm (Sc (Sc (Sc (Sc (Sc (Sc (Sc (Sc aV.nil)))))))) rfl
 refine Yg c5 (cT 0 rfl hh (fa rfl) rfl) ?_
 refine Yh 0 rfl c5 (cS rfl hh (sc rfl) rfl Ent.rfl) ?_
 refine Yg c5 (pK rfl hh hh) ?_
 refine Yy (cE rfl hh c5 hh) ?_
 refine Z1 ?_
 revert H;refine is (fun c6 H=>?_) fun c6 H=>?_
 refine Yt c6 ?_
 refine Yt c6 ?_
 refine Yt c6 ?_
 refine Yy (dM rfl hh c6 hh) ?_
 refine Z2 ?_
 exact bB (true) (Option.some.inj H).symm (Sc (Sc (Sc (Sc (Sc (Sc (Sc (Sc aV.nil)))))))) rfl
 refine Yg c6 (cT 0 rfl hh (fa rfl) rfl) ?_
 refine Yh 0 rfl c6 (cS rfl hh (sc rfl) rfl Ent.rfl) ?_
 refine Yg c6 (pK rfl hh hh) ?_
 refine Yy (cE rfl hh c6 hh) ?_
 refine Z2 ?_
 exact bB (decide (y3.Op=16)) (Option.some.inj H).symm (Sc (Sc (Sc (Sc (Sc (Sc (Sc (Sc aV.nil)))))))) rfl
 clear H;intro x2 hi;subst o2;have H:=Hr2;clear Hr2;try dsimp only at H
 try dsimp only
 revert H;refine bs fun o3 H Hr3=>?_
 refine aT (ι:=Bool) (fun i=>o3=i) (fun i=>[(0,fEq (ptr p0)),(2,fI a2),(4,fEq (ptr b1)),(6,fI y1.Stack),(7,fI y2.Slots),(8,fEq (ptr b2)),(9,fI x1),(10,aJ x2),(11,aJ i)]) (fun i=>[aA b2 73 [fI y3.Op,fI y3.A,fI y3.B],aA b1 25 [fI a1.Free,fSl aF a1.Defs,fSl aH a1.Code,fI a1.Main],aA p0 93 [fEq v1,fEq v2,aJ a0.wrong],aD v1 79 bA a0.levels,aD v2 3 tI a0.wait]) ?_ ?_
 refine Z3 ?_
 revert H;refine bs fun y6 h6 H=>?_
 refine dE trivial rfl rfl rfl hh (aE.cons hh aE.nil) rfl (cb rfl) (aAA y3.Op y6 h6) rfl ?_
 refine Z1 ?_
 revert H;refine cs (fun c7 H=>?_) fun c7 H=>?_
 refine Yt c7 ?_
 refine Yt c7 ?_
 refine Yt c7 ?_
 refine Yy (dM rfl hh c7 hh) ?_
 refine Z7 ?_
 exact bB (true) (Option.some.inj H).symm (Sc (Sc (Sc (Sc (Sc (Sc (Sc (Sc (Sc aV.nil))))))))) rfl
 refine Yg c7 (cT 0 rfl hh (fa rfl) rfl) ?_
 refine Yh 0 rfl c7 (cS rfl hh (sc rfl) rfl Ent.rfl) ?_
 refine Yg c7 (pK rfl hh hh) ?_
 refine Yy (cE rfl hh c7 hh) ?_
 refine Z1 ?_
 revert H;refine is (fun c8 H=>?_) fun c8 H=>?_
 refine Yt c8 ?_
 refine Yt c8 ?_
 refine Yt c8 ?_
 refine Yy (dM rfl hh c8 hh) ?_
 refine Z2 ?_
 exact bB (true) (Option.some.inj H).symm (Sc (Sc (Sc (Sc (Sc (Sc (Sc (Sc (Sc aV.nil))))))))) rfl
 refine Yg c8 (cT 0 rfl hh (fa rfl) rfl) ?_
 refine Yh 0 rfl c8 (cS rfl hh (sc rfl) rfl Ent.rfl) ?_
 refine Yg c8 (pK rfl hh hh) ?_
 refine Yy (cE rfl hh c8 hh) ?_
 refine Z2 ?_
 exact bB (decide (y3.Op=8)) (Option.some.inj H).symm (Sc (Sc (Sc (Sc (Sc (Sc (Sc (Sc (Sc aV.nil))))))))) rfl
 clear H;intro x3 hi;subst o3;have H:=Hr3;clear Hr3;try dsimp only at H
 try dsimp only
 revert H;refine bs fun o4 H Hr4=>?_
 refine aT (ι:=Unit) (fun i=>o4=Sum.inl ()) (fun i=>[(0,fEq (ptr p0)),(2,fI a2),(4,fEq (ptr b1)),(6,fI y1.Stack),(7,fI y2.Slots),(8,fEq (ptr b2))]) (fun i=>[aA b2 73 [fI y3.Op,fI y3.A,fI y3.B],aA b1 25 [fI a1.Free,fSl aF a1.Defs,fSl aH a1.Code,fI a1.Main],aA p0 93 [fEq v1,fEq v2,aJ a0.wrong],aD v1 79 bA a0.levels,aD v2 3 tI a0.wait]) ?_ ?_
 refine Z5 ?_
 revert H;refine is (fun c9 H=>?_) fun c9 H=>?_
 refine Yt c9 ?_
 refine Yt c9 ?_
 refine bF (⟨_,_,_,_,rfl,rfl,rfl,nu⟩) rfl rfl ?_
 refine bF (⟨_,_,_,_,rfl,rfl,rfl,nu⟩) rfl rfl ?_
 refine Yt c9 ?_
 refine Yy (dM rfl hh c9 hh) ?_
 refine Z3 ?_
 refine bF (⟨_,_,_,_,rfl,rfl,rfl,nu⟩) rfl rfl ?_
 refine bF (⟨_,_,_,_,rfl,rfl,rfl,nu⟩) rfl rfl ?_
 refine bF (⟨_,_,_,_,rfl,rfl,rfl,nu⟩) rfl rfl ?_
 refine bF (⟨_,_,_,_,rfl,rfl,rfl,nu⟩) rfl rfl ?_
 refine Z7 ?_
 refine bF (⟨_,_,_,_,rfl,rfl,rfl,nu⟩) rfl rfl ?_
 refine bF (⟨_,_,_,_,rfl,rfl,rfl,nu⟩) rfl rfl ?_
 refine bF (⟨_,_,_,_,rfl,rfl,rfl,nu⟩) rfl rfl ?_
 refine bF (⟨_,_,_,_,rfl,rfl,rfl,nu⟩) rfl rfl ?_
 refine Z8 ?_
 refine aO ?_
 refine bW (φs':=[fEq v1,fEq v2,aJ true]) trivial rfl rfl (has rfl) (has rfl) (aG trivial) (sz rfl) rfl rfl ?_
 refine Z2 ?_
 revert H;refine bs fun r1 H e1=>?_
 have e1:=Option.some.inj e1;subst e1;have Hr4:=Option.some.inj Hr4;subst Hr4
 refine aS ?_
 refine aS ?_
 refine aO ?_
 refine cQ (x:=(⟨a0.levels,a0.wait,true⟩:Ref09_flow)) ?_
 cases H
 refine aC [0] (by decide) ?_
 exact cJ (.inl rfl) rfl rfl
 refine Yg c9 (bT rfl hh) ?_
 refine Yg c9 (bT rfl hh) ?_
 revert H;refine cs (fun c10 H=>?_) fun c10 H=>?_
 refine Yg c10 (bT rfl hh) ?_
 refine Yg c10 (gU rfl hh hh) ?_
 refine Yg c9 (dM rfl hh c10 hh) ?_
 refine Yy (cE rfl hh c9 hh) ?_
 refine Z1 ?_
 revert H;refine is (fun c11 H=>?_) fun c11 H=>?_
 refine Yt c11 ?_
 refine Yt c11 ?_
 refine bF (⟨_,_,_,_,rfl,rfl,rfl,nu⟩) rfl rfl ?_
 refine bF (⟨_,_,_,_,rfl,rfl,rfl,nu⟩) rfl rfl ?_
 refine bF (⟨_,_,_,_,rfl,rfl,rfl,nu⟩) rfl rfl ?_
 refine bF (⟨_,_,_,_,rfl,rfl,rfl,nu⟩) rfl rfl ?_
 refine Yt c11 ?_
 refine Yy (dM rfl hh c11 hh) ?_
 refine Z5 ?_
 refine bF (⟨_,_,_,_,rfl,rfl,rfl,nu⟩) rfl rfl ?_
 refine bF (⟨_,_,_,_,rfl,rfl,rfl,nu⟩) rfl rfl ?_
 refine bF (⟨_,_,_,_,rfl,rfl,rfl,nu⟩) rfl rfl ?_
 refine bF (⟨_,_,_,_,rfl,rfl,rfl,nu⟩) rfl rfl ?_
 refine Z8 ?_
 refine aO ?_
 refine bW (φs':=[fEq v1,fEq v2,aJ true]) trivial rfl rfl (has rfl) (has rfl) (aG trivial) (sz rfl) rfl rfl ?_
 refine Z2 ?_
 revert H;refine bs fun r2 H e2=>?_
 have e2:=Option.some.inj e2;subst e2;have Hr4:=Option.some.inj Hr4;subst Hr4
 refine aS ?_
 refine aS ?_
 refine aO ?_
 refine cQ (x:=(⟨a0.levels,a0.wait,true⟩:Ref09_flow)) ?_
 cases H
 refine aC [0] (by decide) ?_
 exact cJ (.inl rfl) rfl rfl
 refine Yg c11 (bT rfl hh) ?_
 refine Yg c11 (bT rfl hh) ?_
 revert H;refine cs (fun c12 H=>?_) fun c12 H=>?_
 refine Yg c12 (cT 1 rfl hh (fa rfl) rfl) ?_
 refine Yh 0 rfl c12 (cS rfl hh (sc rfl) rfl Ent.rfl) ?_
 refine Yg c12 (bT rfl hh) ?_
 refine Yg c12 (sV rfl hh hh) ?_
 refine Yg c11 (dM rfl hh c12 hh) ?_
 refine Yy (cE rfl hh c11 hh) ?_
 refine Z1 ?_
 revert H;refine is (fun c13 H=>?_) fun c13 H=>?_
 refine Yt c13 ?_
 refine Yt c13 ?_
 refine Yt c13 ?_
 refine Yt c13 ?_
 refine bF (⟨_,_,_,_,rfl,rfl,rfl,nu⟩) rfl rfl ?_
 refine bF (⟨_,_,_,_,rfl,rfl,rfl,nu⟩) rfl rfl ?_
 refine bF (⟨_,_,_,_,rfl,rfl,rfl,nu⟩) rfl rfl ?_
 refine bF (⟨_,_,_,_,rfl,rfl,rfl,nu⟩) rfl rfl ?_
 refine Yt c13 ?_
 refine Yy (dM rfl hh c13 hh) ?_
 refine Z6 ?_
 refine aO ?_
 refine bW (φs':=[fEq v1,fEq v2,aJ true]) trivial rfl rfl (has rfl) (has rfl) (aG trivial) (sz rfl) rfl rfl ?_
 refine Z2 ?_
 revert H;refine bs fun r3 H e3=>?_
 have e3:=Option.some.inj e3;subst e3;have Hr4:=Option.some.inj Hr4;subst Hr4
 refine aS ?_
 refine aS ?_
 refine aO ?_
 refine cQ (x:=(⟨a0.levels,a0.wait,true⟩:Ref09_flow)) ?_
 cases H
 refine aC [0] (by decide) ?_
 exact cJ (.inl rfl) rfl rfl
 refine Yg c13 (cT 0 rfl hh (fa rfl) rfl) ?_
 refine Yh 0 rfl c13 (cS rfl hh (sc rfl) rfl Ent.rfl) ?_
 refine Yg c13 (pK rfl hh hh) ?_
 refine Yg c13 (bT rfl hh) ?_
 revert H;refine is (fun c14 H=>?_) fun c14 H=>?_
 refine Yg c14 (cT 1 rfl hh (fa rfl) rfl) ?_
 refine Yh 0 rfl c14 (cS rfl hh (sc rfl) rfl Ent.rfl) ?_
 refine Yg c14 (bT rfl hh) ?_
 refine Yg c14 (gU rfl hh hh) ?_
 refine Yg c13 (dM rfl hh c14 hh) ?_
 refine Yy (cE rfl hh c13 hh) ?_
 refine Z1 ?_
 revert H;refine is (fun c15 H=>?_) fun c15 H=>?_
 refine dH hh c15 ?_
 refine Z4 ?_
 refine aO ?_
 refine bW (φs':=[fEq v1,fEq v2,aJ true]) trivial rfl rfl (has rfl) (has rfl) (aG trivial) (sz rfl) rfl rfl ?_
 refine Z2 ?_
 revert H;refine bs fun r4 H e4=>?_
 have e4:=Option.some.inj e4;subst e4;have Hr4:=Option.some.inj Hr4;subst Hr4
 refine aS ?_
 refine aS ?_
 refine aO ?_
 refine cQ (x:=(⟨a0.levels,a0.wait,true⟩:Ref09_flow)) ?_
 cases H
 refine aC [0] (by decide) ?_
 exact cJ (.inl rfl) rfl rfl
 refine dG hh c15 ?_
 refine Z2 ?_
 exact bB (()) (Option.some.inj H).symm (Sc (Sc (Sc (Sc (Sc (Sc aV.nil)))))) rfl
 refine Yf c14 ?_
 refine Yf c14 ?_
 refine Yf c14 ?_
 refine Yf c14 ?_
 refine Yg c13 (cE rfl hh c14 hh) ?_
 refine Yy (cE rfl hh c13 hh) ?_
 refine Z4 ?_
 exact bB (()) (Option.some.inj H).symm (Sc (Sc (Sc (Sc (Sc (Sc aV.nil)))))) rfl
 refine Yf c12 ?_
 refine Yf c12 ?_
 refine Yf c12 ?_
 refine Yf c12 ?_
 refine Yg c11 (cE rfl hh c12 hh) ?_
 refine Yy (cE rfl hh c11 hh) ?_
 refine Z5 ?_
 revert H;refine is (fun c16 H=>?_) fun c16 H=>?_
 refine Yg c16 (cT 1 rfl hh (fa rfl) rfl) ?_
 refine Yh 0 rfl c16 (cS rfl hh (sc rfl) rfl Ent.rfl) ?_
 refine Yg c16 (bT rfl hh) ?_
 refine Yg c16 (gU rfl hh hh) ?_
 refine Yg rfl (dM rfl hh c16 hh) ?_
 refine Z2 ?_
 revert H;refine is (fun c17 H=>?_) fun c17 H=>?_
 refine dH hh c17 ?_
 refine Z4 ?_
 refine aO ?_
 refine bW (φs':=[fEq v1,fEq v2,aJ true]) trivial rfl rfl (has rfl) (has rfl) (aG trivial) (sz rfl) rfl rfl ?_
 refine Z2 ?_
 revert H;refine bs fun r5 H e5=>?_
 have e5:=Option.some.inj e5;subst e5;have Hr4:=Option.some.inj Hr4;subst Hr4
 refine aS ?_
 refine aS ?_
 refine aO ?_
 refine cQ (x:=(⟨a0.levels,a0.wait,true⟩:Ref09_flow)) ?_
 cases H
 refine aC [0] (by decide) ?_
 exact cJ (.inl rfl) rfl rfl
 refine dG hh c17 ?_
 refine Z2 ?_
 exact bB (()) (Option.some.inj H).symm (Sc (Sc (Sc (Sc (Sc (Sc aV.nil)))))) rfl
 refine Yf c16 ?_
 refine Yf c16 ?_
 refine Yf c16 ?_
 refine Yf c16 ?_
 refine Yg rfl (cE rfl hh c16 hh) ?_
 refine Z5 ?_
 exact bB (()) (Option.some.inj H).symm (Sc (Sc (Sc (Sc (Sc (Sc aV.nil)))))) rfl
 refine Yf c10 ?_
 refine Yf c10 ?_
 refine Yg c9 (cE rfl hh c10 hh) ?_
 refine Yy (cE rfl hh c9 hh) ?_
 refine Z3 ?_
 revert H;refine cs (fun c18 H=>?_) fun c18 H=>?_
 refine Yg c18 (cT 1 rfl hh (fa rfl) rfl) ?_
 refine Yh 0 rfl c18 (cS rfl hh (sc rfl) rfl Ent.rfl) ?_
 refine Yg c18 (bT rfl hh) ?_
 refine Yg c18 (sV rfl hh hh) ?_
 refine Yg rfl (dM rfl hh c18 hh) ?_
 refine Z2 ?_
 revert H;refine is (fun c19 H=>?_) fun c19 H=>?_
 refine Yt c19 ?_
 refine Yt c19 ?_
 refine Yt c19 ?_
 refine Yt c19 ?_
 refine bF (⟨_,_,_,_,rfl,rfl,rfl,nu⟩) rfl rfl ?_
 refine bF (⟨_,_,_,_,rfl,rfl,rfl,nu⟩) rfl rfl ?_
 refine bF (⟨_,_,_,_,rfl,rfl,rfl,nu⟩) rfl rfl ?_
 refine bF (⟨_,_,_,_,rfl,rfl,rfl,nu⟩) rfl rfl ?_
 refine Yt c19 ?_
 refine Yy (dM rfl hh c19 hh) ?_
 refine Z6 ?_
 refine aO ?_
 refine bW (φs':=[fEq v1,fEq v2,aJ true]) trivial rfl rfl (has rfl) (has rfl) (aG trivial) (sz rfl) rfl rfl ?_
 refine Z2 ?_
 revert H;refine bs fun r6 H e6=>?_
 have e6:=Option.some.inj e6;subst e6;have Hr4:=Option.some.inj Hr4;subst Hr4
 refine aS ?_
 refine aS ?_
 refine aO ?_
 refine cQ (x:=(⟨a0.levels,a0.wait,true⟩:Ref09_flow)) ?_
 cases H
 refine aC [0] (by decide) ?_
 exact cJ (.inl rfl) rfl rfl
 refine Yg c19 (cT 0 rfl hh (fa rfl) rfl) ?_
 refine Yh 0 rfl c19 (cS rfl hh (sc rfl) rfl Ent.rfl) ?_
 refine Yg c19 (pK rfl hh hh) ?_
 refine Yg c19 (bT rfl hh) ?_
 revert H;refine is (fun c20 H=>?_) fun c20 H=>?_
 refine Yg c20 (cT 1 rfl hh (fa rfl) rfl) ?_
 refine Yh 0 rfl c20 (cS rfl hh (sc rfl) rfl Ent.rfl) ?_
 refine Yg c20 (bT rfl hh) ?_
 refine Yg c20 (gU rfl hh hh) ?_
 refine Yg c19 (dM rfl hh c20 hh) ?_
 refine Yy (cE rfl hh c19 hh) ?_
 refine Z1 ?_
 revert H;refine is (fun c21 H=>?_) fun c21 H=>?_
 refine dH hh c21 ?_
 refine Z4 ?_
 refine aO ?_
 refine bW (φs':=[fEq v1,fEq v2,aJ true]) trivial rfl rfl (has rfl) (has rfl) (aG trivial) (sz rfl) rfl rfl ?_
 refine Z2 ?_
 revert H;refine bs fun r7 H e7=>?_
 have e7:=Option.some.inj e7;subst e7;have Hr4:=Option.some.inj Hr4;subst Hr4
 refine aS ?_
 refine aS ?_
 refine aO ?_
 refine cQ (x:=(⟨a0.levels,a0.wait,true⟩:Ref09_flow)) ?_
 cases H
 refine aC [0] (by decide) ?_
 exact cJ (.inl rfl) rfl rfl
 refine dG hh c21 ?_
 refine Z2 ?_
 exact bB (()) (Option.some.inj H).symm (Sc (Sc (Sc (Sc (Sc (Sc aV.nil)))))) rfl
 refine Yf c20 ?_
 refine Yf c20 ?_
 refine Yf c20 ?_
 refine Yf c20 ?_
 refine Yg c19 (cE rfl hh c20 hh) ?_
 refine Yy (cE rfl hh c19 hh) ?_
 refine Z4 ?_
 exact bB (()) (Option.some.inj H).symm (Sc (Sc (Sc (Sc (Sc (Sc aV.nil)))))) rfl
 refine Yf c18 ?_
 refine Yf c18 ?_
 refine Yf c18 ?_
 refine Yf c18 ?_
 refine Yg rfl (cE rfl hh c18 hh) ?_
 refine Z6 ?_
 revert H;refine is (fun c22 H=>?_) fun c22 H=>?_
 refine Yg c22 (cT 1 rfl hh (fa rfl) rfl) ?_
 refine Yh 0 rfl c22 (cS rfl hh (sc rfl) rfl Ent.rfl) ?_
 refine Yg c22 (bT rfl hh) ?_
 refine Yg c22 (gU rfl hh hh) ?_
 refine Yg rfl (dM rfl hh c22 hh) ?_
 refine Z2 ?_
 revert H;refine is (fun c23 H=>?_) fun c23 H=>?_
 refine dH hh c23 ?_
 refine Z4 ?_
 refine aO ?_
 refine bW (φs':=[fEq v1,fEq v2,aJ true]) trivial rfl rfl (has rfl) (has rfl) (aG trivial) (sz rfl) rfl rfl ?_
 refine Z2 ?_
 revert H;refine bs fun r8 H e8=>?_
 have e8:=Option.some.inj e8;subst e8;have Hr4:=Option.some.inj Hr4;subst Hr4
 refine aS ?_
 refine aS ?_
 refine aO ?_
 refine cQ (x:=(⟨a0.levels,a0.wait,true⟩:Ref09_flow)) ?_
 cases H
 refine aC [0] (by decide) ?_
 exact cJ (.inl rfl) rfl rfl
 refine dG hh c23 ?_
 refine Z2 ?_
 exact bB (()) (Option.some.inj H).symm (Sc (Sc (Sc (Sc (Sc (Sc aV.nil)))))) rfl
 refine Yf c22 ?_
 refine Yf c22 ?_
 refine Yf c22 ?_
 refine Yf c22 ?_
 refine Yg rfl (cE rfl hh c22 hh) ?_
 refine Z5 ?_
 exact bB (()) (Option.some.inj H).symm (Sc (Sc (Sc (Sc (Sc (Sc aV.nil)))))) rfl
 clear H;intro i hi;subst o4;have H:=Hr4;clear Hr4;try dsimp only at H
 try dsimp only
 refine Z5 ?_
 revert H;refine bs fun o5 H Hr5=>?_
 refine aT (ι:=Bool) (fun i=>o5=i) (fun i=>[(0,fEq (ptr p0)),(2,fI a2),(4,fEq (ptr b1)),(6,fI y1.Stack),(7,fI y2.Slots),(8,fEq (ptr b2)),(112,fI y3.Op),(120,aJ i)]) (fun i=>[aA b2 73 [fI y3.Op,fI y3.A,fI y3.B],aA b1 25 [fI a1.Free,fSl aF a1.Defs,fSl aH a1.Code,fI a1.Main],aA p0 93 [fEq v1,fEq v2,aJ a0.wrong],aD v1 79 bA a0.levels,aD v2 3 tI a0.wait]) ?_ ?_
 refine Z4 ?_
 revert H;refine is (fun c24 H=>?_) fun c24 H=>?_
 refine dH hh c24 ?_
 refine Z2 ?_
 exact bB (decide (y3.Op=1)) (Option.some.inj H).symm (Sc (Sc (Sc (Sc (Sc (Sc (Sc (Sc aV.nil)))))))) rfl
 refine dG hh c24 ?_
 refine Z4 ?_
 exact bB (decide (y3.Op=2)) (Option.some.inj H).symm (Sc (Sc (Sc (Sc (Sc (Sc (Sc (Sc aV.nil)))))))) rfl
 clear H;intro x4 hi;subst o5;have H:=Hr5;clear Hr5;try dsimp only at H
 try dsimp only
 revert H;refine cs (fun c25 H=>?_) fun c25 H=>?_
 refine dH hh c25 ?_
 refine Z3 ?_
 revert H;refine bs fun z1 h7 H=>?_
 refine Yy (fX rfl hh hh h7) ?_
 refine Z1 ?_
 revert H;refine bs fun z2 h8 H=>?_
 refine Yy (fX rfl hh hh h8) ?_
 refine Z1 ?_
 refine aS ?_
 refine aS ?_
 refine aS ?_
 refine cQ (x:=(⟨a0.levels,a0.wait,a0.wrong⟩:Ref09_flow)) ?_
 revert H;refine bs fun y7 h9 H=>?_
 refine dE trivial rfl rfl rfl hh (aE.cons hh (aE.cons hh (aE.cons hh (aE.cons hh aE.nil)))) rfl (cb rfl) (iK p0 (⟨a0.levels,a0.wait,a0.wrong⟩:Ref09_flow) z1 z2 y2.Slots y7 h9) rfl ?_
 refine fJ (fun v3 v4=>?_)
 refine aB 1 rfl (fun hc_v3=>?_)
 refine aB 2 rfl (fun hc_v4=>?_)
 refine Z2 ?_
 refine cQ (x:=(⟨y7.levels,y7.wait,y7.wrong⟩:Ref09_flow)) ?_
 cases H
 refine aC [0] (by decide) ?_
 exact cJ (.inr rfl) rfl rfl
 refine dG hh c25 ?_
 refine Z4 ?_
 revert H;refine is (fun c26 H=>?_) fun c26 H=>?_
 refine dH hh c26 ?_
 refine Z3 ?_
 revert H;refine bs fun z3 h10 H=>?_
 refine Yy (fX rfl hh hh h10) ?_
 refine Z3 ?_
 revert H;refine bs fun z4 h11 H=>?_
 refine Yy (vX rfl hh hh h11) ?_
 refine Z1 ?_
 refine aS ?_
 refine aS ?_
 refine aS ?_
 refine cQ (x:=(⟨a0.levels,a0.wait,a0.wrong⟩:Ref09_flow)) ?_
 revert H;refine bs fun y8 h12 H=>?_
 refine dE trivial rfl rfl rfl hh (aE.cons hh (aE.cons hh (aE.cons hh (aE.cons hh aE.nil)))) rfl (cb rfl) (iK p0 (⟨a0.levels,a0.wait,a0.wrong⟩:Ref09_flow) z3 z4 y2.Slots y8 h12) rfl ?_
 refine fJ (fun v5 v6=>?_)
 refine aB 1 rfl (fun hc_v5=>?_)
 refine aB 2 rfl (fun hc_v6=>?_)
 refine Z2 ?_
 refine cQ (x:=(⟨y8.levels,y8.wait,y8.wrong⟩:Ref09_flow)) ?_
 cases H
 refine aC [0] (by decide) ?_
 exact cJ (.inr rfl) rfl rfl
 refine dG hh c26 ?_
 refine Z4 ?_
 revert H;refine is (fun c27 H=>?_) fun c27 H=>?_
 refine dH hh c27 ?_
 refine Z3 ?_
 revert H;refine bs fun z5 h13 H=>?_
 refine Yy (fX rfl hh hh h13) ?_
 refine Z1 ?_
 revert H;refine bs fun z6 h14 H=>?_
 refine Yy (vX rfl hh hh h14) ?_
 refine Z1 ?_
 refine aS ?_
 refine aS ?_
 refine aS ?_
 refine cQ (x:=(⟨a0.levels,a0.wait,a0.wrong⟩:Ref09_flow)) ?_
 revert H;refine bs fun y9 h15 H=>?_
 refine dE trivial rfl rfl rfl hh (aE.cons hh (aE.cons hh (aE.cons hh (aE.cons hh aE.nil)))) rfl (cb rfl) (iK p0 (⟨a0.levels,a0.wait,a0.wrong⟩:Ref09_flow) z5 z6 y2.Slots y9 h15) rfl ?_
 refine fJ (fun v7 v8=>?_)
 refine aB 1 rfl (fun hc_v7=>?_)
 refine aB 2 rfl (fun hc_v8=>?_)
 refine Z6 ?_
 revert H;refine bs fun z7 h16 H=>?_
 refine Yy (vX rfl hh hh h16) ?_
 refine Z1 ?_
 refine cQ (x:=(⟨y9.levels,y9.wait,y9.wrong⟩:Ref09_flow)) ?_
 revert H;refine bs fun y10 h17 H=>?_
 refine dE trivial rfl rfl rfl hh (aE.cons hh (aE.cons hh (aE.cons hh (aE.cons hh aE.nil)))) rfl (cb rfl) (iK p0 (⟨y9.levels,y9.wait,y9.wrong⟩:Ref09_flow) y3.A z7 y2.Slots y10 h17) rfl ?_
 refine fJ (fun v9 v10=>?_)
 refine aB 1 rfl (fun hc_v9=>?_)
 refine aB 2 rfl (fun hc_v10=>?_)
 refine Z2 ?_
 refine cQ (x:=(⟨y10.levels,y10.wait,y10.wrong⟩:Ref09_flow)) ?_
 cases H
 refine aC [0] (by decide) ?_
 exact cJ (.inr rfl) rfl rfl
 refine dG hh c27 ?_
 refine Z4 ?_
 revert H;refine is (fun c28 H=>?_) fun c28 H=>?_
 refine dH hh c28 ?_
 refine Z6 ?_
 refine aS ?_
 refine aS ?_
 refine aS ?_
 refine cQ (x:=(⟨a0.levels,a0.wait,a0.wrong⟩:Ref09_flow)) ?_
 revert H;refine bs fun y11 h18 H=>?_
 refine dE trivial rfl rfl rfl hh (aE.cons hh (aE.cons hh (aE.cons hh (aE.cons hh aE.nil)))) rfl (cb rfl) (iK p0 (⟨a0.levels,a0.wait,a0.wrong⟩:Ref09_flow) y3.A y1.Stack y2.Slots y11 h18) rfl ?_
 refine fJ (fun v11 v12=>?_)
 refine aB 1 rfl (fun hc_v11=>?_)
 refine aB 2 rfl (fun hc_v12=>?_)
 refine Z2 ?_
 refine cQ (x:=(⟨y11.levels,y11.wait,y11.wrong⟩:Ref09_flow)) ?_
 cases H
 refine aC [0] (by decide) ?_
 exact cJ (.inr rfl) rfl rfl
 refine dG hh c28 ?_
 refine Z4 ?_
 revert H;refine is (fun c29 H=>?_) fun c29 H=>?_
 refine dH hh c29 ?_
 refine Z6 ?_
 revert H;refine bs fun y12 h19 H=>?_
 refine Yy (cO rfl hh hh (el rfl) h19) ?_
 refine Z2 ?_
 refine aS ?_
 refine aS ?_
 refine aS ?_
 refine cQ (x:=(⟨a0.levels,a0.wait,a0.wrong⟩:Ref09_flow)) ?_
 revert H;refine bs fun y13 h20 H=>?_
 refine dE trivial rfl rfl rfl hh (aE.cons hh (aE.cons hh (aE.cons hh aE.nil))) rfl (cb rfl) (aGS fuel p0 (⟨a0.levels,a0.wait,a0.wrong⟩:Ref09_flow) y12 y2.Slots y13 h20) rfl ?_
 refine fJ (fun v13 v14=>?_)
 refine aB 1 rfl (fun hc_v13=>?_)
 refine aB 2 rfl (fun hc_v14=>?_)
 refine Z1 ?_
 revert H;refine bs fun z8 h21 H=>?_
 revert H;refine bs fun y14 h22 H=>?_
 revert H;refine bs fun z9 h23 H=>?_
 revert H;refine bs fun y15 h24 H=>?_
 revert H;refine bs fun z10 h25 H=>?_
 apply bO (ods:=[_,_,_,_,_,_,_,_,_,_,_,_,_,_,_,_,_,_,_,_,_,_,_]) 23 0 5 bM rfl rfl rfl
 refine ND ?_
 refine M2 ?_
 intros
 refine My (fX rfl hh hh h21) fun _=>?_
 refine M6 ?_
 intros
 refine My (cO rfl hh hh (el rfl) h22) fun _=>?_
 refine M3 ?_
 intros
 refine My (fX rfl hh hh h23) fun _=>?_
 refine M4 ?_
 intros
 refine My (cO rfl hh hh (el rfl) h24) fun _=>?_
 refine M3 ?_
 intros
 refine My (fX rfl hh hh h25) fun _=>?_
 refine Z1 ?_
 refine cQ (x:=(⟨y13.levels,y13.wait,y13.wrong⟩:Ref09_flow)) ?_
 revert H;refine bs fun y16 h26 H=>?_
 refine dE trivial rfl rfl rfl hh (aE.cons hh (aE.cons hh (aE.cons hh (aE.cons hh aE.nil)))) rfl (cb rfl) (iK p0 (⟨y13.levels,y13.wait,y13.wrong⟩:Ref09_flow) z8 y1.Stack z10 y16 h26) rfl ?_
 refine fJ (fun v15 v16=>?_)
 refine aB 1 rfl (fun hc_v15=>?_)
 refine aB 2 rfl (fun hc_v16=>?_)
 refine Z2 ?_
 refine cQ (x:=(⟨y16.levels,y16.wait,y16.wrong⟩:Ref09_flow)) ?_
 cases H
 refine aC [0] (by decide) ?_
 exact cJ (.inr rfl) rfl rfl
 exact fk
 kernel_rfl
 refine dG hh c29 ?_
 refine Z4 ?_
 revert H;refine is (fun c30 H=>?_) fun c30 H=>?_
 refine dH hh c30 ?_
 refine Z3 ?_
 revert H;refine bs fun z11 h27 H=>?_
 refine Yy (fX rfl hh hh h27) ?_
 refine Z3 ?_
 refine aS ?_
 refine aS ?_
 refine aS ?_
 refine cQ (x:=(⟨a0.levels,a0.wait,a0.wrong⟩:Ref09_flow)) ?_
 revert H;refine bs fun y17 h28 H=>?_
 refine dE trivial rfl rfl rfl hh (aE.cons hh (aE.cons hh (aE.cons hh (aE.cons hh aE.nil)))) rfl (cb rfl) (iK p0 (⟨a0.levels,a0.wait,a0.wrong⟩:Ref09_flow) z11 y1.Stack y3.A y17 h28) rfl ?_
 refine fJ (fun v17 v18=>?_)
 refine aB 1 rfl (fun hc_v17=>?_)
 refine aB 2 rfl (fun hc_v18=>?_)
 refine Z2 ?_
 refine cQ (x:=(⟨y17.levels,y17.wait,y17.wrong⟩:Ref09_flow)) ?_
 cases H
 refine aC [0] (by decide) ?_
 exact cJ (.inr rfl) rfl rfl
 refine dG hh c30 ?_
 revert H;refine bs fun o6 H Hr6=>?_
 refine aT (ι:=Bool) (fun i=>o6=i) (fun i=>[(0,fEq (ptr p0)),(2,fI a2),(6,fI y1.Stack),(7,fI y2.Slots),(8,fEq (ptr b2)),(112,fI y3.Op),(209,aJ i)]) (fun i=>[aA b2 73 [fI y3.Op,fI y3.A,fI y3.B],aA b1 25 [fI a1.Free,fSl aF a1.Defs,fSl aH a1.Code,fI a1.Main],aA p0 93 [fEq v1,fEq v2,aJ a0.wrong],aD v1 79 bA a0.levels,aD v2 3 tI a0.wait]) ?_ ?_
 refine Z4 ?_
 revert H;refine is (fun c31 H=>?_) fun c31 H=>?_
 refine dH hh c31 ?_
 refine Z2 ?_
 exact bB (decide (y3.Op=13)) (Option.some.inj H).symm (Sc (Sc (Sc (Sc (Sc (Sc (Sc aV.nil))))))) rfl
 refine dG hh c31 ?_
 refine Z4 ?_
 exact bB (decide (y3.Op=15)) (Option.some.inj H).symm (Sc (Sc (Sc (Sc (Sc (Sc (Sc aV.nil))))))) rfl
 clear H;intro x5 hi;subst o6;have H:=Hr6;clear Hr6;try dsimp only at H
 try dsimp only
 revert H;refine cs (fun c32 H=>?_) fun c32 H=>?_
 refine dH hh c32 ?_
 refine Z5 ?_
 refine aS ?_
 refine aS ?_
 refine aS ?_
 refine cQ (x:=(⟨a0.levels,a0.wait,a0.wrong⟩:Ref09_flow)) ?_
 revert H;refine bs fun y18 h29 H=>?_
 refine dE trivial rfl rfl rfl hh (aE.cons hh (aE.cons hh (aE.cons hh (aE.cons hh aE.nil)))) rfl (cb rfl) (iK p0 (⟨a0.levels,a0.wait,a0.wrong⟩:Ref09_flow) y3.B 0 y2.Slots y18 h29) rfl ?_
 refine fJ (fun v19 v20=>?_)
 refine aB 1 rfl (fun hc_v19=>?_)
 refine aB 2 rfl (fun hc_v20=>?_)
 refine Z4 ?_
 revert H;refine bs fun z12 h30 H=>?_
 refine Yy (fX rfl hh hh h30) ?_
 refine Z2 ?_
 refine cQ (x:=(⟨y18.levels,y18.wait,y18.wrong⟩:Ref09_flow)) ?_
 revert H;refine bs fun y19 h31 H=>?_
 refine dE trivial rfl rfl rfl hh (aE.cons hh (aE.cons hh (aE.cons hh (aE.cons hh aE.nil)))) rfl (cb rfl) (iK p0 (⟨y18.levels,y18.wait,y18.wrong⟩:Ref09_flow) z12 y1.Stack y2.Slots y19 h31) rfl ?_
 refine fJ (fun v21 v22=>?_)
 refine aB 1 rfl (fun hc_v21=>?_)
 refine aB 2 rfl (fun hc_v22=>?_)
 refine Z2 ?_
 refine cQ (x:=(⟨y19.levels,y19.wait,y19.wrong⟩:Ref09_flow)) ?_
 cases H
 refine aC [0] (by decide) ?_
 exact cJ (.inr rfl) rfl rfl
 refine dG hh c32 ?_
 refine Z4 ?_
 revert H;refine is (fun c33 H=>?_) fun c33 H=>?_
 refine dH hh c33 ?_
 refine Z3 ?_
 revert H;refine bs fun z13 h32 H=>?_
 refine Yy (fX rfl hh hh h32) ?_
 refine Z2 ?_
 refine aS ?_
 refine aS ?_
 refine aS ?_
 refine cQ (x:=(⟨a0.levels,a0.wait,a0.wrong⟩:Ref09_flow)) ?_
 revert H;refine bs fun y20 h33 H=>?_
 refine dE trivial rfl rfl rfl hh (aE.cons hh (aE.cons hh (aE.cons hh (aE.cons hh aE.nil)))) rfl (cb rfl) (iK p0 (⟨a0.levels,a0.wait,a0.wrong⟩:Ref09_flow) z13 y1.Stack y2.Slots y20 h33) rfl ?_
 refine fJ (fun v23 v24=>?_)
 refine aB 1 rfl (fun hc_v23=>?_)
 refine aB 2 rfl (fun hc_v24=>?_)
 refine Z2 ?_
 refine cQ (x:=(⟨y20.levels,y20.wait,y20.wrong⟩:Ref09_flow)) ?_
 cases H
 refine aC [0] (by decide) ?_
 exact cJ (.inr rfl) rfl rfl
 refine dG hh c33 ?_
 refine Z4 ?_
 revert H;refine is (fun c34 H=>?_) fun c34 H=>?_
 refine dH hh c34 ?_
 refine Z2 ?_
 refine aS ?_
 refine aS ?_
 refine aS ?_
 refine cQ (x:=(⟨a0.levels,a0.wait,a0.wrong⟩:Ref09_flow)) ?_
 cases H
 refine aC [0] (by decide) ?_
 exact cJ (.inr rfl) rfl rfl
 refine dG hh c34 ?_
 refine Z3 ?_
 revert H;refine bs fun z14 h34 H=>?_
 refine Yy (fX rfl hh hh h34) ?_
 refine Z1 ?_
 revert H;refine bs fun z15 h35 H=>?_
 refine Yy (vX rfl hh hh h35) ?_
 refine Z1 ?_
 refine aS ?_
 refine aS ?_
 refine aS ?_
 refine cQ (x:=(⟨a0.levels,a0.wait,a0.wrong⟩:Ref09_flow)) ?_
 revert H;refine bs fun y21 h36 H=>?_
 refine dE trivial rfl rfl rfl hh (aE.cons hh (aE.cons hh (aE.cons hh (aE.cons hh aE.nil)))) rfl (cb rfl) (iK p0 (⟨a0.levels,a0.wait,a0.wrong⟩:Ref09_flow) z14 z15 y2.Slots y21 h36) rfl ?_
 refine fJ (fun v25 v26=>?_)
 refine aB 1 rfl (fun hc_v25=>?_)
 refine aB 2 rfl (fun hc_v26=>?_)
 refine Z2 ?_
 refine cQ (x:=(⟨y21.levels,y21.wait,y21.wrong⟩:Ref09_flow)) ?_
 cases H
 refine aC [0] (by decide) ?_
 exact cJ (.inr rfl) rfl rfl
 exact fk
 kernel_rfl
open Go.SX Go.SW Go.Dt
def nY (a0:CodeProg):Nat → Int → (List CodeLevel) → Option (List CodeLevel)
| 0,_,_=>none
| k+1,x4,x5=>
 if x4<(a0.Code.length:Int)then
  (dB (x5++[(⟨(-1),(-1)⟩:CodeLevel)])).bind fun z1=>
  (chk (x4+1)).bind fun z2=>
  nY a0 k z2 z1
 else
  some x5
def iB (fuel:Nat) (a0:CodeProg):Nat → (List CodeLevel) → (List Int) → Bool → Option (List CodeLevel × List Int × Bool)
| 0,_,_,_=>none
| k+1,x12,x13,x14=>
 if 0<(x13.length:Int)then
  bif x14 then
   some (x12,x13,x14)
  else
   (chk ((x13.length:Int) - 1)).bind fun z3=>
   (idx x13 z3).bind fun y3=>
   (chk ((x13.length:Int) - 1)).bind fun z4=>
   (slc x13 0 z4).bind fun y4=>
   (oU fuel (⟨x12,y4,x14⟩:Ref09_flow) (⟨a0.Free,a0.Defs,a0.Code,a0.Main⟩:CodeProg) y3).bind fun y5=>
   iB fuel a0 k y5.levels y5.wait y5.wrong
 else
  some (x12,x13,x14)
def lH (x6:List CodeLevel):Nat → Int → Bool → Option (Bool)
| 0,_,_=>none
| k+1,x18,x19=>
 if x18<(x6.length:Int)then
  (bif x19 then
   some true
  else
   (idx x6 x18).bind fun y6=>
   some (decide (y6.Stack<0))).bind fun x20=>
  (chk (x18+1)).bind fun z5=>
  lH x6 k z5 x20
 else
  some x19
def pP (fuel:Nat) (a0:CodeProg):Option ((List CodeLevel) × Int):=
 (uY fuel (⟨a0.Free,a0.Defs,a0.Code,a0.Main⟩:CodeProg)).bind fun y1=>
 bif y1 then
  (nY a0 fuel 0 []).bind fun x1=>
  (fT (⟨x1,[],false⟩:Ref09_flow) a0.Main 0 a0.Free).bind fun y2=>
  (iB fuel a0 fuel y2.levels y2.wait y2.wrong).bind fun (x6,x7,x8)=>
  (lH x6 fuel 0 x8).bind fun x15=>
  bif x15 then
   some ([],2)
  else
   some (x6,0)
 else
  some ([],2)
theorem aHE (fuel:Nat)  (a0:CodeProg) (r:(List CodeLevel) × Int) (H:pP fuel a0=some r):FnS Tryz.prog 11 [fSt fR a0] [] (dJ [fSl bA r.1,fI r.2]) (fun _=>[]):=by
 unfold pP at H
 refine cD Tryz.func11 rfl Tryz.ntmps11 rfl (fun β=>?_)
 refine Z1 ?_
 refine Tn (cG rfl hh bP) fun b1=>?_
 refine Z3 ?_
 refine aL ?_
 revert H;refine B2 fun y1 h1 H=>?_
 refine Tc (aGc _ _ _ h1) ?_
 refine Z2 ?_
 revert H;refine cs (fun c1 H=>?_) fun c1 H=>?_
 refine Z4 ?_
 refine Yy (eS (ψs:=[fEq (.slice none 0 0),fEq (.slice none 0 0),aJ false]) rfl ty_bu_93 rfl aZ.nil rfl) ?_
 refine Tn (cG rfl hh bP) fun b2=>?_
 revert H;refine B2 fun o1 H Hr1=>?_
 refine aT (ι:=List CodeLevel × Value) (fun i=>o1=i.1) (fun i=>[(1,fEq (ptr b1)),(4,fEq (ptr b2))]) (fun i=>[aA b2 93 [fEq i.2,fEq (.slice none 0 0),aJ false],aA b1 25 [fI a0.Free,fSl aF a0.Defs,fSl aH a0.Code,fI a0.Main],aD i.2 79 bA i.1]) ?_ ?_
 refine Z4 ?_
 refine eW bA 79 ?_
 refine aC [1,2,0] (by decide) ?_
 refine Tl (ι:=Nat × Int × List CodeLevel × Value) (fun i=>nY a0 i.1 i.2.1 i.2.2.1=_) (fun i=>i.1) (fun i=>[(1,fEq (ptr b1)),(4,fEq (ptr b2)),(5,fI i.2.1)]) (fun i=>[aA b2 93 [fEq i.2.2.2,fEq (.slice none 0 0),aJ false],aA b1 25 [fI a0.Free,fSl aF a0.Defs,fSl aH a0.Code,fI a0.Main],aD i.2.2.2 79 bA i.2.2.1]) (fuel,0,[],(.slice none 0 0)) H ?_
 clear H;rintro⟨k1,x4,x5,v3⟩ H
 replace H:nY a0 k1 x4 x5=_:=H
 try dsimp only
 obtain _ | k1:=k1
 rw [nY]at H;cases H
 rw [nY]at H
 refine aB 2 rfl (fun hc_v3=>?_)
 refine aL ?_
 revert H;refine I7 (fun c2 H=>?_) fun c2 H=>?_
 refine Z3 ?_
 refine aL ?_
 refine Z7 ?_
 refine Yy (eS (ψs:=[fI (-1),fI (-1)]) rfl pM rfl (aZ.cons (has rfl) (bY (aG trivial)) (aZ.cons (has rfl) (bY (aG trivial)) aZ.nil)) rfl) ?_
 refine Tn (eQ (t:=bA) (xs:=[(⟨(-1),(-1)⟩:CodeLevel)]) rfl (et rfl) (bS.cons rfl hh bP bS.nil) rfl rfl rfl) fun b3=>?_
 generalize (Value.slice (some ⟨b3,0,none⟩) _ _)=v4
 refine aB 0 rfl (fun hc_v4=>?_)
 revert H;refine bs fun z1 h2 H=>?_
 refine bC ?_
 refine aP ?_
 refine gJ trivial rfl rfl rfl (has rfl) (has rfl) (et rfl) rfl h2 (fun v5=>?_)
 refine aB 0 rfl (fun hc_v5=>?_)
 refine Z2 ?_
 refine aP ?_
 refine bW (φs':=[fEq v5,fEq (.slice none 0 0),aJ false]) trivial rfl rfl (has rfl) (has rfl) (aG hc_v5) (sz rfl) rfl rfl ?_
 revert H;refine B5 fun z2 h3 H=>?_
 refine Z3 ?_
 refine aC [0,2,1] (by decide) ?_
 exact Tm ((k1,z2,z1,v5)) ⟨H,ls⟩
 refine Z6 ?_
 exact Tm ((x5,v3)) (ij H)
 clear H;intro i hi;obtain⟨x1,v1⟩:=i;subst o1;have H:=Hr1;clear Hr1;try dsimp only at H
 try dsimp only
 refine aB 2 rfl (fun hc_v1=>?_)
 refine Z6 ?_
 refine eW tI 3 ?_
 refine bC ?_
 refine aO ?_
 refine cQ (x:=(⟨x1,[],false⟩:Ref09_flow)) ?_
 revert H;refine bs fun y2 h4 H=>?_
 refine Tc (iK _ _ _ _ _ _ h4) ?_
 refine fJ (fun v6 v7=>?_)
 refine aB 1 rfl (fun hc_v6=>?_)
 refine aB 2 rfl (fun hc_v7=>?_)
 revert H;refine B1 fun o2 H Hr2=>?_
 refine aT (ι:=List CodeLevel × List Int × Bool × Value × Value) (fun i=>o2=(i.1,i.2.1,i.2.2.1)) (fun i=>[(4,fEq (ptr b2))]) (fun i=>[aA b2 93 [fEq i.2.2.2.1,fEq i.2.2.2.2,aJ i.2.2.1],aA b1 25 [fI a0.Free,fSl aF a0.Defs,fSl aH a0.Code,fI a0.Main],aD i.2.2.2.1 79 bA i.1,aD i.2.2.2.2 3 tI i.2.1]) ?_ ?_
 refine Z1 ?_
 refine aC [0,3,1,2] (by decide) ?_
 refine Tl (ι:=Nat × List CodeLevel × List Int × Bool × Value × Value) (fun i=>iB fuel a0 i.1 i.2.1 i.2.2.1 i.2.2.2.1=_) (fun i=>i.1) (fun i=>[(1,fEq (ptr b1)),(4,fEq (ptr b2))]) (fun i=>[aA b2 93 [fEq i.2.2.2.2.1,fEq i.2.2.2.2.2,aJ i.2.2.2.1],aA b1 25 [fI a0.Free,fSl aF a0.Defs,fSl aH a0.Code,fI a0.Main],aD i.2.2.2.2.1 79 bA i.2.1,aD i.2.2.2.2.2 3 tI i.2.2.1]) (fuel,y2.levels,y2.wait,y2.wrong,v6,v7) H ?_
 clear H;rintro⟨k2,x12,x13,x14,v12,v13⟩ H
 replace H:iB fuel a0 k2 x12 x13 x14=_:=H
 try dsimp only
 obtain _ | k2:=k2
 rw [iB]at H;cases H
 rw [iB]at H
 refine aB 2 rfl (fun hc_v12=>?_)
 refine aB 3 rfl (fun hc_v13=>?_)
 refine aL ?_
 revert H;refine I8 (fun c3 H=>?_) fun c3 H=>?_
 refine Z7 ?_
 revert H;refine cs (fun c4 H=>?_) fun c4 H=>?_
 refine Z6 ?_
 exact Tm ((x12,x13,x14,v12,v13)) (ij H)
 refine Z4 ?_
 refine aL ?_
 revert H;refine bs fun z3 h5 H=>?_
 revert H;refine bs fun y3 h6 H=>?_
 apply bO (ods:=[_,_,_,_,_,_,_,_,_,_,_,_,_]) 13 0 4 bM rfl rfl rfl
 refine ND ?_
 refine M8 ?_
 intros
 refine M3 ?_
 intros
 refine Mo 3 rfl (kK rfl rfl hh (sc rfl) (cU h6) rfl) fun _=>?_
 refine M1 ?_
 intros
 refine Z2 ?_
 refine aL ?_
 revert H;refine bs fun z4 h7 H=>?_
 revert H;refine bs fun y4 h8 H=>?_
 apply bO (ods:=[_,_,_,_,_,_,_,_,_,_,_,_,_,_]) 14 0 4 bM rfl rfl rfl
 refine ND ?_
 refine M8 ?_
 intros
 refine M3 ?_
 intros
 refine Mo 3 rfl (pI rfl hh hh (el rfl) h8) fun _=>?_
 refine M2 ?_
 intros
 refine Z1 ?_
 refine bC ?_
 refine oK 72 rfl h8 (fun v14=>?_)
 refine aB 0 rfl (fun hc_v14=>?_)
 refine aP ?_
 refine bW (φs':=[fEq v12,fEq v14,aJ x14]) trivial rfl rfl (has rfl) (has rfl) (aG hc_v14) (sz rfl) rfl rfl ?_
 refine Z5 ?_
 refine aP ?_
 refine bC ?_
 refine aO ?_
 refine cQ (x:=(⟨x12,y4,x14⟩:Ref09_flow)) ?_
 revert H;refine bs fun y5 h9 H=>?_
 refine Tc (aFX _ _ _ _ _ _ h9) ?_
 refine fJ (fun v15 v16=>?_)
 refine aB 1 rfl (fun hc_v15=>?_)
 refine aB 2 rfl (fun hc_v16=>?_)
 refine Z3 ?_
 refine aC [0,3,1,2] (by decide) ?_
 exact Tm ((k2,y5.levels,y5.wait,y5.wrong,v15,v16)) ⟨H,ls⟩
 exact fk
 kernel_rfl
 exact fk
 kernel_rfl
 refine Z12 ?_
 refine Z1 ?_
 exact Tm ((x12,x13,x14,v12,v13)) (ij H)
 clear H;intro i hi;obtain⟨x6,x7,x8,v8,v9⟩:=i;subst o2;have H:=Hr2;clear Hr2;try dsimp only at H
 try dsimp only
 refine aB 2 rfl (fun hc_v8=>?_)
 refine aB 3 rfl (fun hc_v9=>?_)
 revert H;refine bs fun o3 H Hr3=>?_
 refine aT (ι:=Bool) (fun i=>o3=i) (fun i=>[(4,fEq (ptr b2))]) (fun i=>[aA b2 93 [fEq v8,fEq v9,aJ i],aA b1 25 [fI a0.Free,fSl aF a0.Defs,fSl aH a0.Code,fI a0.Main],aD v8 79 bA x6,aD v9 3 tI x7]) ?_ ?_
 refine Z4 ?_
 refine Tl (ι:=Nat × Int × Bool) (fun i=>lH x6 i.1 i.2.1 i.2.2=_) (fun i=>i.1) (fun i=>[(4,fEq (ptr b2)),(7,fI i.2.1)]) (fun i=>[aA b2 93 [fEq v8,fEq v9,aJ i.2.2],aA b1 25 [fI a0.Free,fSl aF a0.Defs,fSl aH a0.Code,fI a0.Main],aD v8 79 bA x6,aD v9 3 tI x7]) (fuel,0,x8) H ?_
 clear H;rintro⟨k3,x18,x19⟩ H
 replace H:lH x6 k3 x18 x19=_:=H
 try dsimp only
 obtain _ | k3:=k3
 rw [lH]at H;cases H
 rw [lH]at H
 refine aL ?_
 revert H;refine I9 (fun c5 H=>?_) fun c5 H=>?_
 revert H;refine B3 fun o4 H Hr4=>?_
 refine aT (ι:=Bool) (fun i=>o4=i) (fun i=>[(4,fEq (ptr b2)),(7,fI x18)]) (fun i=>[aA b2 93 [fEq v8,fEq v9,aJ i],aA b1 25 [fI a0.Free,fSl aF a0.Defs,fSl aH a0.Code,fI a0.Main],aD v8 79 bA x6,aD v9 3 tI x7]) ?_ ?_
 refine Z8 ?_
 revert H;refine cs (fun c6 H=>?_) fun c6 H=>?_
 refine Z12 ?_
 refine bW (φs':=[fEq v8,fEq v9,aJ true]) trivial rfl rfl (has rfl) (has rfl) (aG trivial) (sz rfl) rfl rfl ?_
 refine Z3 ?_
 exact Tm (true) (ij H)
 revert H;refine B5 fun y6 h10 H=>?_
 refine Z1 ?_
 refine Yg c6 (zT 0 rfl hh (fa rfl) rfl) ?_
 refine Yh 2 rfl c6 (kK rfl rfl hh (sc rfl) (cU h10) rfl) ?_
 refine Z4 ?_
 refine bW (φs':=[fEq v8,fEq v9,aJ (decide (y6.Stack<0))]) trivial rfl rfl (has rfl) (has rfl) (aG trivial) (sz rfl) rfl rfl ?_
 refine Z3 ?_
 exact Tm (decide (y6.Stack<0)) (ij H)
 clear H;intro x20 hi;subst o4;have H:=Hr4;clear Hr4;try dsimp only at H
 try dsimp only
 revert H;refine B2 fun z5 h11 H=>?_
 refine Z3 ?_
 exact Tm ((k3,z5,x20)) ⟨H,ls⟩
 refine Z6 ?_
 exact Tm (x19) (ij H)
 clear H;intro x15 hi;subst o3;have H:=Hr3;clear Hr3;try dsimp only at H
 try dsimp only
 refine aL ?_
 refine Z6 ?_
 revert H;refine cs (fun c7 H=>?_) fun c7 H=>?_
 refine Z6 ?_
 cases H
 refine aC [] (by decide) ?_
 exact gZ rfl (iX rfl dK) (bV rfl) rfl
 refine Z12 ?_
 refine aO ?_
 refine hZ (φ:=fSl bA x6) (v:=v8) [113,2] fS fz ?_
 refine oI (φs':=[fSl bA x6,fEq v9,aJ x15]) (i:=0) rfl rfl ?_
 refine gV ?_
 cases H
 refine aC [] (by decide) ?_
 exact gZ rfl (bV rfl) (bV rfl) rfl
 refine Z6 ?_
 cases H
 refine aC [] (by decide) ?_
 exact gZ rfl (iX rfl dK) (bV rfl) rfl
def wN (a0:CodeProg) (a1:SolVal) (a2:Ref09_Doing):Option (Bool):=
 if a1.Kind=1 then
  (if (-1000000000) ≤ a1.N then
   some (decide (a1.N ≤ 1000000000))
  else
   some false).bind fun x1=>
  some x1
 else
  if a1.Kind=2 then
   (if 0 ≤ a1.N then
    some (decide (a1.N<a0.Free))
   else
    some false).bind fun x2=>
   some x2
  else
   if a1.Kind=3 then
    (if 0 ≤ a1.N then
     some (decide (a1.N<a2.Chans))
    else
     some false).bind fun x3=>
    some x3
   else
    if a1.Kind=4 then
     (if 0 ≤ a1.N then
      some (decide (a1.N<a2.Spots))
     else
      some false).bind fun x4=>
     some x4
    else
     some false
theorem aF9  (a0:CodeProg) (a1:SolVal) (a2:Ref09_Doing) (r:Bool) (H:wN a0 a1 a2=some r):FnS Tryz.prog 56 [fSt fR a0,fSt aQ a1,fSt vV a2] [] (aJ r) (fun _=>[]):=by
 unfold wN at H
 refine cD Tryz.func56 rfl Tryz.ntmps56 rfl (fun β=>?_)
 refine Z1 ?_
 refine Tn (cG rfl hh bP) fun b1=>?_
 refine Tn (cG rfl hh bP) fun b2=>?_
 refine Tn (cG rfl hh bP) fun b3=>?_
 refine Z2 ?_
 refine aL ?_
 revert H;refine I9 (fun c1 H=>?_) fun c1 H=>?_
 revert H;refine B1 fun o1 H Hr1=>?_
 refine aT (ι:=Bool) (fun i=>o1=i) (fun i=>[(6,aJ i)]) (fun i=>[aA b3 47 [fI a2.Start,fI a2.Here,fSl aQ a2.Env,fI a2.Chans,fI a2.Spots],aA b2 70 [fI a1.Kind,fI a1.N],aA b1 25 [fI a0.Free,fSl aF a0.Defs,fSl aH a0.Code,fI a0.Main]]) ?_ ?_
 revert H;refine I5 (fun c2 H=>?_) fun c2 H=>?_
 refine Z6 ?_
 exact Tm (decide (a1.N ≤ 1000000000)) (ij H)
 refine Z6 ?_
 exact Tm (false) (ij H)
 clear H;intro x1 hi;subst o1;have H:=Hr1;clear Hr1;try dsimp only at H
 try dsimp only
 refine Z3 ?_
 cases H
 refine aC [] (by decide) ?_
 exact To
 revert H;refine I5 (fun c3 H=>?_) fun c3 H=>?_
 revert H;refine B1 fun o2 H Hr2=>?_
 refine aT (ι:=Bool) (fun i=>o2=i) (fun i=>[(6,aJ i)]) (fun i=>[aA b3 47 [fI a2.Start,fI a2.Here,fSl aQ a2.Env,fI a2.Chans,fI a2.Spots],aA b2 70 [fI a1.Kind,fI a1.N],aA b1 25 [fI a0.Free,fSl aF a0.Defs,fSl aH a0.Code,fI a0.Main]]) ?_ ?_
 revert H;refine I5 (fun c4 H=>?_) fun c4 H=>?_
 refine Z8 ?_
 exact Tm (decide (a1.N<a0.Free)) (ij H)
 refine Z8 ?_
 exact Tm (false) (ij H)
 clear H;intro x2 hi;subst o2;have H:=Hr2;clear Hr2;try dsimp only at H
 try dsimp only
 refine Z3 ?_
 cases H
 refine aC [] (by decide) ?_
 exact To
 revert H;refine I5 (fun c5 H=>?_) fun c5 H=>?_
 revert H;refine B1 fun o3 H Hr3=>?_
 refine aT (ι:=Bool) (fun i=>o3=i) (fun i=>[(6,aJ i)]) (fun i=>[aA b3 47 [fI a2.Start,fI a2.Here,fSl aQ a2.Env,fI a2.Chans,fI a2.Spots],aA b2 70 [fI a1.Kind,fI a1.N],aA b1 25 [fI a0.Free,fSl aF a0.Defs,fSl aH a0.Code,fI a0.Main]]) ?_ ?_
 revert H;refine I5 (fun c6 H=>?_) fun c6 H=>?_
 refine Z8 ?_
 exact Tm (decide (a1.N<a2.Chans)) (ij H)
 refine Z8 ?_
 exact Tm (false) (ij H)
 clear H;intro x3 hi;subst o3;have H:=Hr3;clear Hr3;try dsimp only at H
 try dsimp only
 refine Z3 ?_
 cases H
 refine aC [] (by decide) ?_
 exact To
 revert H;refine I5 (fun c7 H=>?_) fun c7 H=>?_
 revert H;refine B1 fun o4 H Hr4=>?_
 refine aT (ι:=Bool) (fun i=>o4=i) (fun i=>[(6,aJ i)]) (fun i=>[aA b3 47 [fI a2.Start,fI a2.Here,fSl aQ a2.Env,fI a2.Chans,fI a2.Spots],aA b2 70 [fI a1.Kind,fI a1.N],aA b1 25 [fI a0.Free,fSl aF a0.Defs,fSl aH a0.Code,fI a0.Main]]) ?_ ?_
 revert H;refine I5 (fun c8 H=>?_) fun c8 H=>?_
 refine Z8 ?_
 exact Tm (decide (a1.N<a2.Spots)) (ij H)
 refine Z8 ?_
 exact Tm (false) (ij H)
 clear H;intro x4 hi;subst o4;have H:=Hr4;clear Hr4;try dsimp only at H
 try dsimp only
 refine Z3 ?_
 cases H
 refine aC [] (by decide) ?_
 exact To
 refine Z8 ?_
 cases H
 refine aC [] (by decide) ?_
 exact To
def kQ (a0:bL) (a1:Int) (a2:Int) (a3:Int) (a4:List SolVal):Option (bL):=
 (dB ([]++a4)).bind fun z1=>
 (dB (a0.acts++[(⟨a1,a2,a3,z1⟩:CodeAct)])).bind fun z2=>
 some (⟨(⟨a0.c.Free,a0.c.Defs,a0.c.Code,a0.c.Main⟩:CodeProg),a0.chans,a0.spots,z2,a0.long⟩:bL)
theorem zC (p0:Nat) (σ4:Tk) (φ4:Fact) (Λ4:List (Value × Fact)) (a0:bL) (a1:Int) (a2:Int) (a3:Int) (a4:List SolVal) (r:bL) (hF4:gI [σ4] Λ4) (hW4:EntW Λ4 φ4 (fSl aQ a4)) (H:kQ a0 a1 a2 a3 a4=some r):FnS Tryz.prog 98 [fEq (.pointer (some ⟨p0,0,none⟩)),fI a1,fI a2,fI a3,φ4] [kT p0 a0,σ4] (dJ []) (fun _=>[kT p0 r,σ4]):=by
 unfold kQ at H
 refine cD Tryz.func98 rfl Tryz.ntmps98 rfl (fun β=>?_)
 refine kZ (fun v1=>?_)
 refine aB 1 rfl (fun hc_v1=>?_)
 revert H;refine bs fun z1 h1 H=>?_
 revert H;refine bs fun z2 h2 H=>?_
 apply bO (ods:=[_,_,_,_,_,_,_,_,_,_,_,_,_,_,_,_]) 16 0 3 bM rfl rfl rfl
 refine ND ?_
 refine M8 ?_
 intros
 refine M1 ?_
 intros
 refine N_appL (od:=odC [2] false (fSl aQ z1) [cV]) rfl (fun _=>rfl) trivial rfl rfl rfl (has rfl) (has rfl) hW4 hF4 (fun x φ h=>by simp only [aQ,List.mem_cons,List.not_mem_nil,or_false]at h;rcases h with rfl | rfl <;> exact aEL) (et rfl) rfl h1 (fun _=>?_)
 refine My (eS (ψs:=[fI a1,fI a2,fI a3,fSl aQ z1]) rfl aD6 rfl (aZ.cons (has rfl) (bY (aG trivial)) (aZ.cons (has rfl) (bY (aG trivial)) (aZ.cons (has rfl) (bY (aG trivial)) (aZ.cons (has rfl) (bY (dF)) aZ.nil)))) rfl) fun _=>?_
 refine Mf (φ:=fSl cA [(⟨a1,a2,a3,z1⟩:CodeAct)]) (eQ (t:=cA) (xs:=[(⟨a1,a2,a3,z1⟩:CodeAct)]) rfl (et rfl) (bS.cons rfl (has rfl) bP bS.nil) rfl rfl rfl) (fun b=>fS) fun _=>?_
 refine N_appR (od:=odN [1] true (fun _ v3=>gF v3) (fun _ v3=>[aD v3 67 cA z2])) (p:=1) rfl (fun _=>rfl) (fun _=>rfl) trivial rfl rfl rfl (has rfl) (has rfl) (et rfl) rfl h2 (fun u1 v3=>?_)
 refine M2 ?_
 intros
 refine sY (od:=od1 12 [0] true (fun _ v3=>fK) (fun _ v3=>[aA p0 132 [fI a0.c.Free,fSl aF a0.c.Defs,fSl aH a0.c.Code,fI a0.c.Main,fI a0.chans,fI a0.spots,gF v3,aJ a0.long]])) (p:=0) (φs':=[fI a0.c.Free,fSl aF a0.c.Defs,fSl aH a0.c.Code,fI a0.c.Main,fI a0.chans,fI a0.spots,gF v3,aJ a0.long]) rfl (fun _=>rfl) (fun _=>rfl) trivial rfl rfl rfl (has rfl) (has rfl) (uX) (sz rfl) rfl rfl (fun _=>?_)
 refine Z1 ?_
 refine pX 22 rfl yB ?_
 refine aB 1 rfl (fun hc_v3=>?_)
 refine oE (aK.cons Ent.rfl (aK.cons Ent.rfl (aK.cons Ent.rfl (aK.cons Ent.rfl (aK.cons Ent.rfl (aK.cons Ent.rfl (aK.cons yB (aK.cons Ent.rfl aK.nil)))))))) ?_
 refine Z1 ?_
 refine jV (x:=(⟨(⟨a0.c.Free,a0.c.Defs,a0.c.Code,a0.c.Main⟩:CodeProg),a0.chans,a0.spots,z2,a0.long⟩:bL)) ?_
 cases H
 exact cJ (.inr rfl) rfl rfl
 exact fk
 kernel_rfl
def qP (a0:SolVal):Option (Int):=
 if a0.Kind=1 then
  some a0.N
 else
  some 0
theorem aBb  (a0:SolVal) (r:Int) (H:qP a0=some r):FnS Tryz.prog 99 [fSt aQ a0] [] (fI r) (fun _=>[]):=by
 unfold qP at H
 refine cD Tryz.func99 rfl Tryz.ntmps99 rfl (fun β=>?_)
 refine Z1 ?_
 refine Tn (cG rfl hh bP) fun b1=>?_
 refine Z2 ?_
 refine aL ?_
 revert H;refine I5 (fun c1 H=>?_) fun c1 H=>?_
 refine Z7 ?_
 cases H
 refine aC [] (by decide) ?_
 exact To
 refine Z7 ?_
 cases H
 refine aC [] (by decide) ?_
 exact To
def vY (a0:Int) (a1:SolVal) (a2:SolVal):Option (SolVal):=
 (qP (⟨a1.Kind,a1.N⟩:SolVal)).bind fun y1=>
 (qP (⟨a2.Kind,a2.N⟩:SolVal)).bind fun y2=>
 (if a0=3 then
  (chk (y1+y2)).bind fun z1=>
  some z1
 else
  if a0=4 then
   (chk (y1 - y2)).bind fun z2=>
   some z2
  else
   if a0=5 then
    (chk (y1*y2)).bind fun z3=>
    some z3
   else
    if a0=6 then
     if y1<y2 then
      some 1
     else
      some 0
    else
     if a0=7 then
      if y1=y2 then
       some 1
      else
       some 0
     else
      some 0).bind fun x1=>
 some (⟨1,max (-1000000000) (min 1000000000 x1)⟩:SolVal)
theorem aHH  (a0:Int) (a1:SolVal) (a2:SolVal) (r:SolVal) (H:vY a0 a1 a2=some r):FnS Tryz.prog 101 [fI a0,fSt aQ a1,fSt aQ a2] [] (fSt aQ r) (fun _=>[]):=by
 unfold vY at H
 refine cD Tryz.func101 rfl Tryz.ntmps101 rfl (fun β=>?_)
 refine Z1 ?_
 refine Tn (cG rfl hh bP) fun b1=>?_
 refine Tn (cG rfl hh bP) fun b2=>?_
 refine Tn (cR rfl wM rfl) fun b3=>?_
 refine Z1 ?_
 refine aL ?_
 revert H;refine bs fun y1 h1 H=>?_
 revert H;refine bs fun y2 h2 H=>?_
 apply bO (ods:=[_,_,_,_,_,_]) 6 0 3 bM rfl rfl rfl
 refine ND ?_
 refine M1 ?_
 intros
 refine Nc (aBb _ _ h1) fun _=>?_
 refine M1 ?_
 intros
 refine Nc (aBb _ _ h2) fun _=>?_
 refine M2 ?_
 intros
 revert H;refine B5 fun o1 H Hr1=>?_
 refine aT (ι:=Int) (fun i=>o1=i) (fun i=>[(6,fEq (ptr b3)),(9,fI i)]) (fun i=>[aA b3 70 [fI 0,fI 0],aA b2 70 [fI a2.Kind,fI a2.N],aA b1 70 [fI a1.Kind,fI a1.N]]) ?_ ?_
 revert H;refine I8 (fun c1 H=>?_) fun c1 H=>?_
 revert H;refine B4 fun z1 h3 H=>?_
 refine Z5 ?_
 exact Tm (z1) (ij H)
 revert H;refine I5 (fun c2 H=>?_) fun c2 H=>?_
 revert H;refine B4 fun z2 h4 H=>?_
 refine Z5 ?_
 exact Tm (z2) (ij H)
 revert H;refine I5 (fun c3 H=>?_) fun c3 H=>?_
 revert H;refine B4 fun z3 h5 H=>?_
 refine Z5 ?_
 exact Tm (z3) (ij H)
 revert H;refine I5 (fun c4 H=>?_) fun c4 H=>?_
 revert H;refine I6 (fun c5 H=>?_) fun c5 H=>?_
 refine Z6 ?_
 exact Tm (1) (ij H)
 refine Z4 ?_
 exact Tm (0) (ij H)
 revert H;refine I5 (fun c6 H=>?_) fun c6 H=>?_
 revert H;refine I6 (fun c7 H=>?_) fun c7 H=>?_
 refine Z6 ?_
 exact Tm (1) (ij H)
 refine Z4 ?_
 exact Tm (0) (ij H)
 refine Z4 ?_
 exact Tm (0) (ij H)
 clear H;intro x1 hi;subst o1;have H:=Hr1;clear Hr1;try dsimp only at H
 try dsimp only
 refine Z3 ?_
 refine Yy (o_max rfl hh hh) ?_
 refine Yy (eS (ψs:=[fI 1,fI (max (-1000000000) (min 1000000000 x1))]) rfl oP rfl (aZ.cons (has rfl) (bY (aG trivial)) (aZ.cons (has rfl) (bY (aG trivial)) aZ.nil)) rfl) ?_
 refine cW (φs':=[fI 1,fI (max (-1000000000) (min 1000000000 x1))]) trivial rfl rfl (has rfl) (has rfl) (aN (aG trivial) (aN (aG trivial) bZ)) (sz rfl) rfl rfl rfl ?_
 refine Z2 ?_
 cases H
 refine aC [0] (by decide) ?_
 exact aBq rfl (ag rfl) rfl (bV rfl) Ent.rfl rfl
 exact fk
 kernel_rfl
open Go.SX Go.SW Go.Dt
def fY (rec_r09_doer_define:bL → Int → Int → (List SolVal) → Option (bL × List SolVal)) (a2:Int):Nat → Int → (List SolVal) → (List SolVal) → Int → (List ScopeDef) → (List CodeIns) → Int → Int → Int → (List CodeAct) → Bool → Option (bL)
| 0,_,_,_,_,_,_,_,_,_,_,_=>none
| k+1,x12,x13,x14,x15,x16,x17,x18,x19,x20,x21,x22=>
 bif !x22 then
  (idx x17 x12).bind fun y1=>
  if y1.Op≠16 then
   (idx x17 x12).bind fun y2=>
   (chk (x12+1)).bind fun z2=>
   if y2.Op=1 then
    (dB (x14++[(⟨1,y2.A⟩:SolVal)])).bind fun z3=>
    fY rec_r09_doer_define a2 k z2 x13 z3 x15 x16 x17 x18 x19 x20 x21 x22
   else
    if y2.Op=2 then
     (idx x13 y2.A).bind fun y3=>
     (dB (x14++[y3])).bind fun z4=>
     fY rec_r09_doer_define a2 k z2 x13 z4 x15 x16 x17 x18 x19 x20 x21 x22
    else
     if y2.Op=8 then
      ((idx x13 y2.A).bind fun y4=>
      if y4.Kind=2 then
       (idx x13 y2.A).bind fun y5=>
       (chk ((x14.length:Int) - y2.B)).bind fun z5=>
       (slc x14 z5 (x14.length:Int)).bind fun y6=>
       (kQ (⟨(⟨x15,x16,x17,x18⟩:CodeProg),x19,x20,x21,x22⟩:bL) 1 a2 y5.N y6).bind fun y7=>
       some (y7.c.Free,y7.c.Defs,y7.c.Code,y7.c.Main,y7.chans,y7.spots,y7.acts,y7.long)
      else
       some (x15,x16,x17,x18,x19,x20,x21,x22)).bind fun (x23,x24,x25,x26,x27,x28,x29,x30)=>
      ((idx x13 y2.A).bind fun y8=>
      if y8.Kind=3 then
       (idx x13 y2.A).bind fun y9=>
       (chk ((x14.length:Int) - y2.B)).bind fun z6=>
       (slc x14 z6 (x14.length:Int)).bind fun y10=>
       (kQ (⟨(⟨x23,x24,x25,x26⟩:CodeProg),x27,x28,x29,x30⟩:bL) 2 a2 y9.N y10).bind fun y11=>
       some (y11.c.Free,y11.c.Defs,y11.c.Code,y11.c.Main,y11.chans,y11.spots,y11.acts,y11.long)
      else
       some (x23,x24,x25,x26,x27,x28,x29,x30)).bind fun (x31,x32,x33,x34,x35,x36,x37,x38)=>
      (chk ((x14.length:Int) - y2.B)).bind fun z7=>
      (slc x14 0 z7).bind fun y12=>
      fY rec_r09_doer_define a2 k z2 x13 y12 x31 x32 x33 x34 x35 x36 x37 x38
     else
      if y2.Op=9 then
       ((chk ((x14.length:Int) - 1)).bind fun z8=>
       (idx x14 z8).bind fun y13=>
       (qP y13).bind fun y14=>
       if y14=0 then
        some y2.A
       else
        some z2).bind fun x39=>
       (chk ((x14.length:Int) - 1)).bind fun z9=>
       (slc x14 0 z9).bind fun y15=>
       fY rec_r09_doer_define a2 k x39 x13 y15 x15 x16 x17 x18 x19 x20 x21 x22
      else
       if y2.Op=10 then
        fY rec_r09_doer_define a2 k y2.A x13 x14 x15 x16 x17 x18 x19 x20 x21 x22
       else
        if y2.Op=11 then
         (rec_r09_doer_define (⟨(⟨x15,x16,x17,x18⟩:CodeProg),x19,x20,x21,x22⟩:bL) y2.A a2 x13).bind fun y16=>
         fY rec_r09_doer_define a2 k z2 y16.2 x14 y16.1.c.Free y16.1.c.Defs y16.1.c.Code y16.1.c.Main y16.1.chans y16.1.spots y16.1.acts y16.1.long
        else
         if y2.Op=12 then
          (slc x13 0 y2.A).bind fun y17=>
          fY rec_r09_doer_define a2 k z2 y17 x14 x15 x16 x17 x18 x19 x20 x21 x22
         else
          (if y2.Op=13 then
           some (decide (y2.Op=13))
          else
           if y2.Op=14 then
            some (decide (y2.Op=14))
           else
            some (decide (y2.Op=15))).bind fun x40=>
          bif x40 then
           (chk (z2 - 1)).bind fun z10=>
           (kQ (⟨(⟨x15,x16,x17,x18⟩:CodeProg),x19,x20,x21,x22⟩:bL) 4 a2 z10 x13).bind fun y18=>
           fY rec_r09_doer_define a2 k z2 x13 x14 y18.c.Free y18.c.Defs y18.c.Code y18.c.Main y18.chans y18.spots y18.acts y18.long
          else
           (chk ((x14.length:Int) - 2)).bind fun z11=>
           (idx x14 z11).bind fun y19=>
           (chk ((x14.length:Int) - 1)).bind fun z12=>
           (idx x14 z12).bind fun y20=>
           (vY y2.Op y19 y20).bind fun y21=>
           (chk ((x14.length:Int) - 2)).bind fun z13=>
           (slc x14 0 z13).bind fun y22=>
           (dB (y22++[(⟨y21.Kind,y21.N⟩:SolVal)])).bind fun z14=>
           fY rec_r09_doer_define a2 k z2 x13 z14 x15 x16 x17 x18 x19 x20 x21 x22
  else
   some (⟨(⟨x15,x16,x17,x18⟩:CodeProg),x19,x20,x21,x22⟩:bL)
 else
  some (⟨(⟨x15,x16,x17,x18⟩:CodeProg),x19,x20,x21,x22⟩:bL)
def lP (a0:bL) (y1:ScopeDef):Nat → (List SolVal) → Int → Option (List SolVal)
| 0,_,_=>none
| k+1,x4,x5=>
 if x5<(y1.Chans.length:Int)then
  (chk (a0.chans+x5)).bind fun z2=>
  (dB (x4++[(⟨3,z2⟩:SolVal)])).bind fun z3=>
  (chk (x5+1)).bind fun z4=>
  lP a0 y1 k z3 z4
 else
  some x4
def mM (a0:bL) (y1:ScopeDef):Nat → (List SolVal) → Int → Option (List SolVal)
| 0,_,_=>none
| k+1,x9,x10=>
 if x10<(y1.Spots.length:Int)then
  (chk (a0.spots+x10)).bind fun z5=>
  (dB (x9++[(⟨4,z5⟩:SolVal)])).bind fun z6=>
  (chk (x10+1)).bind fun z7=>
  mM a0 y1 k z6 z7
 else
  some x9
def gS (rec_r09_doer_run:bL → Int → Int → (List SolVal) → Option (bL)) (a0:bL) (y1:ScopeDef) (x6:List SolVal):Nat → Int → Int → (List ScopeDef) → (List CodeIns) → Int → Int → Int → (List CodeAct) → Bool → Option (Int × List ScopeDef × List CodeIns × Int × Int × Int × List CodeAct × Bool)
| 0,_,_,_,_,_,_,_,_,_=>none
| k+1,x29,x30,x31,x32,x33,x34,x35,x36,x37=>
 if x29<(y1.Spots.length:Int)then
  bif x37 then
   some (x30,x31,x32,x33,x34,x35,x36,x37)
  else
   (idx y1.Spots x29).bind fun y3=>
   (chk (a0.spots+x29)).bind fun z10=>
   (rec_r09_doer_run (⟨(⟨x30,x31,x32,x33⟩:CodeProg),x34,x35,x36,x37⟩:bL) y3.Node z10 x6).bind fun y4=>
   (chk (x29+1)).bind fun z11=>
   gS rec_r09_doer_run a0 y1 x6 k z11 y4.c.Free y4.c.Defs y4.c.Code y4.c.Main y4.chans y4.spots y4.acts y4.long
 else
  some (x30,x31,x32,x33,x34,x35,x36,x37)
mutual
def fL:Nat → bL → Int → Int → (List SolVal) → Option (bL)
| 0,_,_,_,_=>none
| fuel+1,a0,a1,a2,a3=>
 (dB ([]++a3)).bind fun z1=>
 fY (mS fuel) a2 fuel a1 z1 [] a0.c.Free a0.c.Defs a0.c.Code a0.c.Main a0.chans a0.spots a0.acts a0.long
def mS:Nat → bL → Int → Int → (List SolVal) → Option (bL × List SolVal)
| 0,_,_,_,_=>none
| fuel+1,a0,a1,a2,a3=>
 (idx a0.c.Defs a1).bind fun y1=>
 (dB ([]++a3)).bind fun z1=>
 (lP a0 y1 fuel z1 0).bind fun x1=>
 (mM a0 y1 fuel x1 0).bind fun x6=>
 (chk (a0.chans+(y1.Chans.length:Int))).bind fun z8=>
 (chk (a0.spots+(y1.Spots.length:Int))).bind fun z9=>
 (bif a0.long then
  some true
 else
  if 60<z8 then
   some true
  else
   some (decide (24<z9))).bind fun x11=>
 (kQ (⟨(⟨a0.c.Free,a0.c.Defs,a0.c.Code,a0.c.Main⟩:CodeProg),z8,z9,a0.acts,x11⟩:bL) 3 a2 a1 x6).bind fun y2=>
 (gS (fL fuel) a0 y1 x6 fuel 0 y2.c.Free y2.c.Defs y2.c.Code y2.c.Main y2.chans y2.spots y2.acts y2.long).bind fun (x12,x13,x14,x15,x16,x17,x18,x19)=>
 some ((⟨(⟨x12,x13,x14,x15⟩:CodeProg),x16,x17,x18,x19⟩:bL),x6)
end
theorem aFC:∀ (fuel:Nat),(∀ (p0:Nat) (a0:bL) (a1:Int) (a2:Int) (a3:List SolVal) (r:bL) (H:fL fuel a0 a1 a2 a3=some r),FnS Tryz.prog 57 [fEq (.pointer (some ⟨p0,0,none⟩)),fI a1,fI a2,fSl aQ a3] [kT p0 a0] (dJ []) (fun _=>[kT p0 r])) ∧ (∀ (p0:Nat) (a0:bL) (a1:Int) (a2:Int) (a3:List SolVal) (r:bL × List SolVal) (H:mS fuel a0 a1 a2 a3=some r),FnS Tryz.prog 100 [fEq (.pointer (some ⟨p0,0,none⟩)),fI a1,fI a2,fSl aQ a3] [kT p0 a0] (fSl aQ r.2) (fun _=>[kT p0 r.1])):=by
 intro fuel
 induction fuel with
 | zero=>exact⟨fun p0 a0 a1 a2 a3 r H=>(by rw [fL]at H;cases H),fun p0 a0 a1 a2 a3 r H=>(by rw [mS]at H;cases H)⟩
 | succ fuel ih=>
 obtain⟨ih_r09_doer_run,ih_r09_doer_define⟩:=@ih
 refine⟨?_,?_⟩
 intro p0 a0 a1 a2 a3 r H
 rw [fL]at H
 refine cD Tryz.func57 rfl Tryz.ntmps57 rfl (fun β=>?_)
 refine kZ (fun v1=>?_)
 refine aB 1 rfl (fun hc_v1=>?_)
 refine Z2 ?_
 refine eW aQ 70 ?_
 revert H;refine bs fun z1 h1 H=>?_
 refine tP (ys:=a3) trivial rfl rfl rfl (has rfl) (has rfl) (et rfl) rfl h1 (fun v2=>?_)
 refine aB 0 rfl (fun hc_v2=>?_)
 refine Z6 ?_
 refine hZ (φ:=fSl aQ z1) (v:=v2) [3,13] fS fz ?_
 refine gV ?_
 refine eW aQ 70 ?_
 refine aC [1,0,2] (by decide) ?_
 refine iT (ι:=Nat × Int × List SolVal × List SolVal × Int × List ScopeDef × List CodeIns × Int × Int × Int × List CodeAct × Bool × Value × Value) (fun i=>fY (mS fuel) a2 i.1 i.2.1 i.2.2.1 i.2.2.2.1 i.2.2.2.2.1 i.2.2.2.2.2.1 i.2.2.2.2.2.2.1 i.2.2.2.2.2.2.2.1 i.2.2.2.2.2.2.2.2.1 i.2.2.2.2.2.2.2.2.2.1 i.2.2.2.2.2.2.2.2.2.2.1 i.2.2.2.2.2.2.2.2.2.2.2.1=_) (fun i=>i.1) (fun i=>[(0,fEq (ptr p0)),(1,fI i.2.1),(2,fI a2),(3,fSl aQ i.2.2.1),(8,fEq i.2.2.2.2.2.2.2.2.2.2.2.2.1)]) (fun i=>[aA p0 132 [fI i.2.2.2.2.1,fSl aF i.2.2.2.2.2.1,fSl aH i.2.2.2.2.2.2.1,fI i.2.2.2.2.2.2.2.1,fI i.2.2.2.2.2.2.2.2.1,fI i.2.2.2.2.2.2.2.2.2.1,fEq i.2.2.2.2.2.2.2.2.2.2.2.2.2,aJ i.2.2.2.2.2.2.2.2.2.2.2.1],aD i.2.2.2.2.2.2.2.2.2.2.2.2.1 70 aQ i.2.2.2.1,aD i.2.2.2.2.2.2.2.2.2.2.2.2.2 67 cA i.2.2.2.2.2.2.2.2.2.2.1]) (fuel,a1,z1,[],a0.c.Free,a0.c.Defs,a0.c.Code,a0.c.Main,a0.chans,a0.spots,a0.acts,a0.long,(.slice none 0 0),v1) H (Sc (Sc (Sc (Sc (Sc aV.nil))))) rfl ?_
 clear H;rintro⟨k1,x12,x13,x14,x15,x16,x17,x18,x19,x20,x21,x22,v5,v6⟩ H
 replace H:fY (mS fuel) a2 k1 x12 x13 x14 x15 x16 x17 x18 x19 x20 x21 x22=_:=H
 try dsimp only
 obtain _ | k1:=k1
 rw [fY]at H;cases H
 rw [fY]at H
 refine aB 1 rfl (fun hc_v5=>?_)
 refine aB 2 rfl (fun hc_v6=>?_)
 refine aL ?_
 refine Z7 ?_
 revert H;refine cs (fun c1 H=>?_) fun c1 H=>?_
 refine Z6 ?_
 revert H;refine bs fun y1 h2 H=>?_
 refine Z6 ?_
 revert H;refine is (fun c2 H=>?_) fun c2 H=>?_
 refine Z11 ?_
 revert H;refine bs fun y2 h3 H=>?_
 refine Z2 ?_
 refine fP trivial rfl rfl (cR rfl qK rfl) (fun b1=>?_)
 refine cW (φs':=[fI y2.Op,fI y2.A,fI y2.B]) trivial rfl rfl (has rfl) (has rfl) (aN (aG trivial) (aN (aG trivial) (aN (aG trivial) bZ))) (sz rfl) rfl rfl rfl ?_
 refine Z3 ?_
 revert H;refine bs fun z2 h4 H=>?_
 refine Z12 ?_
 refine Z5 ?_
 revert H;refine is (fun c3 H=>?_) fun c3 H=>?_
 refine Z5 ?_
 refine Yy (eS (ψs:=[fI 1,fI y2.A]) rfl oP rfl (aZ.cons (has rfl) (bY (aG trivial)) (aZ.cons (has rfl) (bY (aG trivial)) aZ.nil)) rfl) ?_
 refine fP trivial rfl rfl (eQ (t:=aQ) (xs:=[(⟨1,y2.A⟩:SolVal)]) rfl (et rfl) (bS.cons rfl (has rfl) bP bS.nil) rfl rfl rfl) (fun b2=>?_)
 generalize (Value.slice (some ⟨b2,0,none⟩) _ _)=v7
 refine aB 0 rfl (fun hc_v7=>?_)
 revert H;refine bs fun z3 h5 H=>?_
 refine bC ?_
 refine aP ?_
 refine gJ trivial rfl rfl rfl (has rfl) (has rfl) (et rfl) rfl h5 (fun v8=>?_)
 refine aB 0 rfl (fun hc_v8=>?_)
 refine Z5 ?_
 refine aC [2,0,3] (by decide) ?_
 exact bB ((k1,z2,x13,z3,x15,x16,x17,x18,x19,x20,x21,x22,v8,v6)) ⟨H,Nat.lt_succ_self _⟩ (Sc (Sc (Sc (Sc (Sc aV.nil))))) rfl
 refine Z5 ?_
 revert H;refine is (fun c4 H=>?_) fun c4 H=>?_
 refine Z6 ?_
 revert H;refine bs fun y3 h6 H=>?_
 refine Z2 ?_
 refine fP trivial rfl rfl (eQ (t:=aQ) (xs:=[y3]) rfl (et rfl) (bS.cons rfl (has rfl) bP bS.nil) rfl rfl rfl) (fun b3=>?_)
 generalize (Value.slice (some ⟨b3,0,none⟩) _ _)=v9
 refine aB 0 rfl (fun hc_v9=>?_)
 revert H;refine bs fun z4 h7 H=>?_
 refine bC ?_
 refine aP ?_
 refine gJ trivial rfl rfl rfl (has rfl) (has rfl) (et rfl) rfl h7 (fun v10=>?_)
 refine aB 0 rfl (fun hc_v10=>?_)
 refine Z5 ?_
 refine aC [2,0,3] (by decide) ?_
 exact bB ((k1,z2,x13,z4,x15,x16,x17,x18,x19,x20,x21,x22,v10,v6)) ⟨H,Nat.lt_succ_self _⟩ (Sc (Sc (Sc (Sc (Sc aV.nil))))) rfl
 refine Z5 ?_
 revert H;refine is (fun c5 H=>?_) fun c5 H=>?_
 refine Z1 ?_
 revert H;refine bs fun o1 H Hr1=>?_
 refine aT (ι:=Int × List ScopeDef × List CodeIns × Int × Int × Int × List CodeAct × Bool × Value) (fun i=>o1=(i.1,i.2.1,i.2.2.1,i.2.2.2.1,i.2.2.2.2.1,i.2.2.2.2.2.1,i.2.2.2.2.2.2.1,i.2.2.2.2.2.2.2.1)) (fun i=>[(0,fEq (ptr p0)),(1,fI z2),(2,fI a2),(3,fSl aQ x13),(8,fEq v5),(9,fEq (ptr b1)),(10,fI (x14.length:Int))]) (fun i=>[aA p0 132 [fI i.1,fSl aF i.2.1,fSl aH i.2.2.1,fI i.2.2.2.1,fI i.2.2.2.2.1,fI i.2.2.2.2.2.1,fEq i.2.2.2.2.2.2.2.2,aJ i.2.2.2.2.2.2.2.1],aA b1 73 [fI y2.Op,fI y2.A,fI y2.B],aD v5 70 aQ x14,aD i.2.2.2.2.2.2.2.2 67 cA i.2.2.2.2.2.2.1]) ?_ ?_
 refine Z4 ?_
 revert H;refine bs fun y4 h8 H=>?_
 refine Z5 ?_
 revert H;refine is (fun c6 H=>?_) fun c6 H=>?_
 refine Z1 ?_
 revert H;refine bs fun y5 h9 H=>?_
 revert H;refine bs fun z5 h10 H=>?_
 revert H;refine bs fun y6 h11 H=>?_
 apply bO (ods:=[_,_,_,_,_,_,_,_,_,_,_,_,_,_]) 14 0 4 bM rfl rfl rfl
 refine ND ?_
 refine M8 ?_
 intros
 refine M5 ?_
 intros
 refine Mo 2 rfl (aBH (l:=z5) (h:=(x14.length:Int)) rfl hh (mH hh) nH (el rfl) h11) fun _=>?_
 refine Z1 ?_
 refine bC ?_
 refine aO ?_
 refine jV (x:=(⟨(⟨x15,x16,x17,x18⟩:CodeProg),x19,x20,x21,x22⟩:bL)) ?_
 refine aO ?_
 refine aP ?_
 revert H;refine bs fun y7 h12 H=>?_
 refine dE trivial rfl rfl rfl hh (aE.cons hh (aE.cons hh (aE.cons hh (aE.cons hh (aE.cons hh aE.nil))))) rfl (cb rfl) (zC p0 (aD v5 70 aQ x14) (rH v5 2 (Int.toNat z5) (Int.toNat (x14.length:Int))) [(v5,fSl0 aQ x14)] (⟨(⟨x15,x16,x17,x18⟩:CodeProg),x19,x20,x21,x22⟩:bL) 1 a2 y5.N y6 y7 (gI.cons aBp gI.nil) (aBT (t:=aQ) 0 rfl (aBu h11)) h12) rfl ?_
 refine kZ (fun v12=>?_)
 refine aB 1 rfl (fun hc_v12=>?_)
 refine Z1 ?_
 refine aC [0,3,2,1] (by decide) ?_
 exact bB ((y7.c.Free,y7.c.Defs,y7.c.Code,y7.c.Main,y7.chans,y7.spots,y7.acts,y7.long,v12)) (Option.some.inj H).symm (Sc (Sc (Sc (Sc (Sc (Sc (Sc aV.nil))))))) rfl
 exact fk
 kernel_rfl
 refine Z3 ?_
 refine aC [1,0,2,3] (by decide) ?_
 exact bB ((x15,x16,x17,x18,x19,x20,x21,x22,v6)) (Option.some.inj H).symm (Sc (Sc (Sc (Sc (Sc (Sc (Sc aV.nil))))))) rfl
 clear H;intro i hi;obtain⟨x23,x24,x25,x26,x27,x28,x29,x30,v11⟩:=i;subst o1;have H:=Hr1;clear Hr1;try dsimp only at H
 try dsimp only
 refine aB 3 rfl (fun hc_v11=>?_)
 revert H;refine bs fun o2 H Hr2=>?_
 refine aT (ι:=Int × List ScopeDef × List CodeIns × Int × Int × Int × List CodeAct × Bool × Value) (fun i=>o2=(i.1,i.2.1,i.2.2.1,i.2.2.2.1,i.2.2.2.2.1,i.2.2.2.2.2.1,i.2.2.2.2.2.2.1,i.2.2.2.2.2.2.2.1)) (fun i=>[(0,fEq (ptr p0)),(1,fI z2),(2,fI a2),(3,fSl aQ x13),(8,fEq v5),(9,fEq (ptr b1)),(10,fI (x14.length:Int))]) (fun i=>[aA p0 132 [fI i.1,fSl aF i.2.1,fSl aH i.2.2.1,fI i.2.2.2.1,fI i.2.2.2.2.1,fI i.2.2.2.2.2.1,fEq i.2.2.2.2.2.2.2.2,aJ i.2.2.2.2.2.2.2.1],aA b1 73 [fI y2.Op,fI y2.A,fI y2.B],aD v5 70 aQ x14,aD i.2.2.2.2.2.2.2.2 67 cA i.2.2.2.2.2.2.1]) ?_ ?_
 refine Z4 ?_
 revert H;refine bs fun y8 h13 H=>?_
 refine Z5 ?_
 revert H;refine is (fun c7 H=>?_) fun c7 H=>?_
 refine Z1 ?_
 revert H;refine bs fun y9 h14 H=>?_
 revert H;refine bs fun z6 h15 H=>?_
 revert H;refine bs fun y10 h16 H=>?_
 apply bO (ods:=[_,_,_,_,_,_,_,_,_,_,_,_,_,_]) 14 0 4 bM rfl rfl rfl
 refine ND ?_
 refine M8 ?_
 intros
 refine M5 ?_
 intros
 refine Mo 2 rfl (aBH (l:=z6) (h:=(x14.length:Int)) rfl hh (mH hh) nH (el rfl) h16) fun _=>?_
 refine Z1 ?_
 refine bC ?_
 refine aP ?_
 refine jV (x:=(⟨(⟨x23,x24,x25,x26⟩:CodeProg),x27,x28,x29,x30⟩:bL)) ?_
 refine aO ?_
 refine aP ?_
 revert H;refine bs fun y11 h17 H=>?_
 refine dE trivial rfl rfl rfl hh (aE.cons hh (aE.cons hh (aE.cons hh (aE.cons hh (aE.cons hh aE.nil))))) rfl (cb rfl) (zC p0 (aD v5 70 aQ x14) (rH v5 2 (Int.toNat z6) (Int.toNat (x14.length:Int))) [(v5,fSl0 aQ x14)] (⟨(⟨x23,x24,x25,x26⟩:CodeProg),x27,x28,x29,x30⟩:bL) 2 a2 y9.N y10 y11 (gI.cons aBp gI.nil) (aBT (t:=aQ) 0 rfl (aBu h16)) h17) rfl ?_
 refine kZ (fun v14=>?_)
 refine aB 1 rfl (fun hc_v14=>?_)
 refine Z1 ?_
 refine aC [0,3,2,1] (by decide) ?_
 exact bB ((y11.c.Free,y11.c.Defs,y11.c.Code,y11.c.Main,y11.chans,y11.spots,y11.acts,y11.long,v14)) (Option.some.inj H).symm (Sc (Sc (Sc (Sc (Sc (Sc (Sc aV.nil))))))) rfl
 exact fk
 kernel_rfl
 refine Z3 ?_
 exact bB ((x23,x24,x25,x26,x27,x28,x29,x30,v11)) (Option.some.inj H).symm (Sc (Sc (Sc (Sc (Sc (Sc (Sc aV.nil))))))) rfl
 clear H;intro i hi;obtain⟨x31,x32,x33,x34,x35,x36,x37,x38,v13⟩:=i;subst o2;have H:=Hr2;clear Hr2;try dsimp only at H
 try dsimp only
 refine aB 3 rfl (fun hc_v13=>?_)
 refine Z5 ?_
 revert H;refine bs fun z7 h18 H=>?_
 refine Z1 ?_
 revert H;refine bs fun y12 h19 H=>?_
 refine Yo 2 rfl (pI rfl hh hh (el rfl) h19) ?_
 refine aO ?_
 refine oK 134 rfl h19 (fun v15=>?_)
 refine aB 0 rfl (fun hc_v15=>?_)
 refine Z5 ?_
 refine aC [1,0,3] (by decide) ?_
 exact bB ((k1,z2,x13,y12,x31,x32,x33,x34,x35,x36,x37,x38,v15,v13)) ⟨H,Nat.lt_succ_self _⟩ (Sc (Sc (Sc (Sc (Sc aV.nil))))) rfl
 refine Z5 ?_
 revert H;refine is (fun c8 H=>?_) fun c8 H=>?_
 refine Z1 ?_
 revert H;refine bs fun o3 H Hr3=>?_
 refine aT (ι:=Int) (fun i=>o3=i) (fun i=>[(0,fEq (ptr p0)),(1,fI i),(2,fI a2),(3,fSl aQ x13),(8,fEq v5),(10,fI (x14.length:Int))]) (fun i=>[aA b1 73 [fI y2.Op,fI y2.A,fI y2.B],aA p0 132 [fI x15,fSl aF x16,fSl aH x17,fI x18,fI x19,fI x20,fEq v6,aJ x22],aD v5 70 aQ x14,aD v6 67 cA x21]) ?_ ?_
 refine Z3 ?_
 revert H;refine bs fun z8 h20 H=>?_
 refine Z1 ?_
 revert H;refine bs fun y13 h21 H=>?_
 refine Z1 ?_
 refine Yo 2 rfl (rD rfl rfl hh (ag rfl) (cU h21)) ?_
 revert H;refine bs fun y14 h22 H=>?_
 refine dE trivial rfl rfl rfl hh (aE.cons hh aE.nil) rfl (cb rfl) (aBb y13 y14 h22) rfl ?_
 refine Z2 ?_
 revert H;refine is (fun c9 H=>?_) fun c9 H=>?_
 refine Z6 ?_
 exact bB (y2.A) (Option.some.inj H).symm (Sc (Sc (Sc (Sc (Sc (Sc aV.nil)))))) rfl
 refine Z3 ?_
 exact bB (z2) (Option.some.inj H).symm (Sc (Sc (Sc (Sc (Sc (Sc aV.nil)))))) rfl
 clear H;intro x39 hi;subst o3;have H:=Hr3;clear Hr3;try dsimp only at H
 try dsimp only
 refine Z3 ?_
 revert H;refine bs fun z9 h23 H=>?_
 refine Z1 ?_
 revert H;refine bs fun y15 h24 H=>?_
 refine Yo 2 rfl (pI rfl hh hh (el rfl) h24) ?_
 refine aO ?_
 refine oK 149 rfl h24 (fun v16=>?_)
 refine aB 0 rfl (fun hc_v16=>?_)
 refine Z5 ?_
 refine aC [2,0,3] (by decide) ?_
 exact bB ((k1,x39,x13,y15,x15,x16,x17,x18,x19,x20,x21,x22,v16,v6)) ⟨H,Nat.lt_succ_self _⟩ (Sc (Sc (Sc (Sc (Sc aV.nil))))) rfl
 refine Z5 ?_
 revert H;refine is (fun c10 H=>?_) fun c10 H=>?_
 refine Z9 ?_
 refine aC [1,2,3] (by decide) ?_
 exact bB ((k1,y2.A,x13,x14,x15,x16,x17,x18,x19,x20,x21,x22,v5,v6)) ⟨H,Nat.lt_succ_self _⟩ (Sc (Sc (Sc (Sc (Sc aV.nil))))) rfl
 refine Z5 ?_
 revert H;refine is (fun c11 H=>?_) fun c11 H=>?_
 refine Z7 ?_
 refine bC ?_
 refine aO ?_
 refine jV (x:=(⟨(⟨x15,x16,x17,x18⟩:CodeProg),x19,x20,x21,x22⟩:bL)) ?_
 revert H;refine bs fun y16 h25 H=>?_
 refine dE trivial rfl rfl rfl hh (aE.cons hh (aE.cons hh (aE.cons hh (aE.cons hh aE.nil)))) rfl (cb rfl) (ih_r09_doer_define p0 (⟨(⟨x15,x16,x17,x18⟩:CodeProg),x19,x20,x21,x22⟩:bL) y2.A a2 x13 y16 h25) rfl ?_
 refine kZ (fun v17=>?_)
 refine aB 1 rfl (fun hc_v17=>?_)
 refine Z5 ?_
 refine aC [0,3,1] (by decide) ?_
 exact bB ((k1,z2,y16.2,x14,y16.1.c.Free,y16.1.c.Defs,y16.1.c.Code,y16.1.c.Main,y16.1.chans,y16.1.spots,y16.1.acts,y16.1.long,v5,v17)) ⟨H,Nat.lt_succ_self _⟩ (Sc (Sc (Sc (Sc (Sc aV.nil))))) rfl
 refine Z5 ?_
 revert H;refine is (fun c12 H=>?_) fun c12 H=>?_
 refine Z5 ?_
 revert H;refine bs fun y17 h26 H=>?_
 refine Yy (rN (t:=aQ) rfl hh nH (mH hh) (el rfl) h26) ?_
 refine Z5 ?_
 refine aC [1,2,3] (by decide) ?_
 exact bB ((k1,z2,y17,x14,x15,x16,x17,x18,x19,x20,x21,x22,v5,v6)) ⟨H,Nat.lt_succ_self _⟩ (Sc (Sc (Sc (Sc (Sc aV.nil))))) rfl
 refine Z1 ?_
 revert H;refine bs fun o4 H Hr4=>?_
 refine aT (ι:=Bool) (fun i=>o4=i) (fun i=>[(0,fEq (ptr p0)),(1,fI z2),(2,fI a2),(3,fSl aQ x13),(8,fEq v5),(9,fEq (ptr b1)),(10,fI (x14.length:Int)),(168,aJ i)]) (fun i=>[aA b1 73 [fI y2.Op,fI y2.A,fI y2.B],aA p0 132 [fI x15,fSl aF x16,fSl aH x17,fI x18,fI x19,fI x20,fEq v6,aJ x22],aD v5 70 aQ x14,aD v6 67 cA x21]) ?_ ?_
 refine Z4 ?_
 revert H;refine is (fun c13 H=>?_) fun c13 H=>?_
 refine Z3 ?_
 exact bB (decide (y2.Op=13)) (Option.some.inj H).symm (Sc (Sc (Sc (Sc (Sc (Sc (Sc (Sc aV.nil)))))))) rfl
 refine Z5 ?_
 revert H;refine is (fun c14 H=>?_) fun c14 H=>?_
 refine Z3 ?_
 exact bB (decide (y2.Op=14)) (Option.some.inj H).symm (Sc (Sc (Sc (Sc (Sc (Sc (Sc (Sc aV.nil)))))))) rfl
 refine Z5 ?_
 exact bB (decide (y2.Op=15)) (Option.some.inj H).symm (Sc (Sc (Sc (Sc (Sc (Sc (Sc (Sc aV.nil)))))))) rfl
 clear H;intro x40 hi;subst o4;have H:=Hr4;clear Hr4;try dsimp only at H
 try dsimp only
 revert H;refine cs (fun c15 H=>?_) fun c15 H=>?_
 refine Z5 ?_
 revert H;refine bs fun z10 h27 H=>?_
 refine Z2 ?_
 refine bC ?_
 refine aO ?_
 refine jV (x:=(⟨(⟨x15,x16,x17,x18⟩:CodeProg),x19,x20,x21,x22⟩:bL)) ?_
 refine xO ?_
 refine aP ?_
 revert H;refine bs fun y18 h28 H=>?_
 refine dE trivial rfl rfl rfl hh (aE.cons hh (aE.cons hh (aE.cons hh (aE.cons hh (aE.cons hh aE.nil))))) rfl (cb rfl) (zC p0 cV (fSl aQ x13) [] (⟨(⟨x15,x16,x17,x18⟩:CodeProg),x19,x20,x21,x22⟩:bL) 4 a2 z10 x13 y18 aAq (zI Ent.rfl) h28) rfl ?_
 refine kZ (fun v18=>?_)
 refine aB 1 rfl (fun hc_v18=>?_)
 refine Z4 ?_
 refine aC [0,4,1] (by decide) ?_
 exact bB ((k1,z2,x13,x14,y18.c.Free,y18.c.Defs,y18.c.Code,y18.c.Main,y18.chans,y18.spots,y18.acts,y18.long,v5,v18)) ⟨H,Nat.lt_succ_self _⟩ (Sc (Sc (Sc (Sc (Sc aV.nil))))) rfl
 refine Z1 ?_
 refine aL ?_
 revert H;refine bs fun z11 h29 H=>?_
 revert H;refine bs fun y19 h30 H=>?_
 revert H;refine bs fun z12 h31 H=>?_
 revert H;refine bs fun y20 h32 H=>?_
 revert H;refine bs fun y21 h33 H=>?_
 apply bO (ods:=[_,_,_,_,_,_,_,_,_,_,_,_,_,_,_]) 15 1 5 bM rfl rfl rfl
 refine ND ?_
 refine M6 ?_
 intros
 refine Mo 2 rfl (rD rfl rfl hh (ag rfl) (cU h30)) fun _=>?_
 refine M4 ?_
 intros
 refine Mo 2 rfl (rD rfl rfl hh (ag rfl) (cU h32)) fun _=>?_
 refine sW (od:=odC [] true (fSt aQ y21) []) (Φ:=fSt aQ y21) rfl (fun _=>rfl) trivial rfl rfl (has rfl) (aE.cons (has rfl) (aE.cons (has rfl) (aE.cons (has rfl) aE.nil))) rfl (cb rfl) (aHH y2.Op y19 y20 y21 h33) (fun _=>?_)
 refine Mn 4 (fun b4=>ptr b4) (fun b4=>aA b4 70 [fI 0,fI 0]) rfl (cR rfl wM rfl) (fun b4 u1=>?_)
 refine yZ (od:=od1 13 [4] true (fun b4 _=>fK) (fun b4 _=>[aA b4 70 [fI y21.Kind,fI y21.N]])) (p:=4) (φs':=[fI y21.Kind,fI y21.N]) rfl (fun _=>rfl) (fun _=>rfl) trivial rfl rfl rfl (has rfl) (has rfl) (aN (aG trivial) (aN (aG trivial) bZ)) (sz rfl) rfl rfl rfl (fun _=>?_)
 refine Z2 ?_
 revert H;refine bs fun z13 h34 H=>?_
 revert H;refine bs fun y22 h35 H=>?_
 apply bO (ods:=[_,_,_,_,_,_]) 6 0 5 bM rfl rfl rfl
 refine ND ?_
 refine M3 ?_
 intros
 refine Mo 2 rfl (pI rfl hh hh (el rfl) h35) fun _=>?_
 refine M1 ?_
 intros
 refine Mf (φ:=fSl aQ [(⟨y21.Kind,y21.N⟩:SolVal)]) (eQ (t:=aQ) (xs:=[(⟨y21.Kind,y21.N⟩:SolVal)]) rfl (et rfl) (bS.cons rfl (has rfl) bP bS.nil) rfl rfl rfl) (fun b=>fS) fun _=>?_
 refine Z1 ?_
 refine aO ?_
 refine oK 61 rfl h35 (fun v20=>?_)
 refine aB 0 rfl (fun hc_v20=>?_)
 revert H;refine bs fun z14 h36 H=>?_
 refine tP (ys:=[(⟨y21.Kind,y21.N⟩:SolVal)]) trivial rfl rfl rfl (has rfl) (has rfl) (et rfl) rfl h36 (fun v21=>?_)
 refine aB 0 rfl (fun hc_v21=>?_)
 refine Z5 ?_
 refine aC [2,0,3] (by decide) ?_
 exact bB ((k1,z2,x13,z14,x15,x16,x17,x18,x19,x20,x21,x22,v21,v6)) ⟨H,Nat.lt_succ_self _⟩ (Sc (Sc (Sc (Sc (Sc aV.nil))))) rfl
 exact fk
 kernel_rfl
 exact fk
 kernel_rfl
 refine Z5 ?_
 refine aO ?_
 refine aP ?_
 refine jV (x:=(⟨(⟨x15,x16,x17,x18⟩:CodeProg),x19,x20,x21,x22⟩:bL)) ?_
 cases H
 refine aC [0] (by decide) ?_
 exact cJ (.inr rfl) rfl rfl
 refine Z12 ?_
 refine Z5 ?_
 refine aO ?_
 refine aP ?_
 refine jV (x:=(⟨(⟨x15,x16,x17,x18⟩:CodeProg),x19,x20,x21,x22⟩:bL)) ?_
 cases H
 refine aC [0] (by decide) ?_
 exact cJ (.inr rfl) rfl rfl
 intro p0 a0 a1 a2 a3 r H
 rw [mS]at H
 refine cD Tryz.func100 rfl Tryz.ntmps100 rfl (fun β=>?_)
 refine kZ (fun v1=>?_)
 refine aB 1 rfl (fun hc_v1=>?_)
 refine Z10 ?_
 revert H;refine bs fun y1 h1 H=>?_
 refine Z2 ?_
 refine fP trivial rfl rfl (cR rfl tY rfl) (fun b1=>?_)
 refine cW (φs':=[fSl bG y1.Chans,fSl bQ y1.Spots,fSl bR y1.Rules]) trivial rfl rfl (has rfl) (has rfl) (aN (dF) (aN (dF) (aN (dF) bZ))) (sz rfl) rfl rfl rfl ?_
 refine Z10 ?_
 refine eW aQ 70 ?_
 revert H;refine bs fun z1 h2 H=>?_
 refine tP (ys:=a3) trivial rfl rfl rfl (has rfl) (has rfl) (et rfl) rfl h2 (fun v2=>?_)
 refine aB 0 rfl (fun hc_v2=>?_)
 refine Z2 ?_
 revert H;refine bs fun o1 H Hr1=>?_
 refine aT (ι:=List SolVal × Value) (fun i=>o1=i.1) (fun i=>[(0,fEq (ptr p0)),(1,fI a1),(2,fI a2),(3,fEq i.2),(9,fEq (ptr b1)),(10,fI a0.spots)]) (fun i=>[aA b1 63 [fSl bG y1.Chans,fSl bQ y1.Spots,fSl bR y1.Rules],aA p0 132 [fI a0.c.Free,fSl aF a0.c.Defs,fSl aH a0.c.Code,fI a0.c.Main,fI a0.chans,fI a0.spots,fEq v1,aJ a0.long],aD i.2 70 aQ i.1,aD v1 67 cA a0.acts]) ?_ ?_
 refine Z4 ?_
 refine aC [1,2,0,3] (by decide) ?_
 refine iT (ι:=Nat × List SolVal × Int × Value) (fun i=>lP a0 y1 i.1 i.2.1 i.2.2.1=_) (fun i=>i.1) (fun i=>[(0,fEq (ptr p0)),(1,fI a1),(2,fI a2),(3,fEq i.2.2.2),(9,fEq (ptr b1)),(10,fI a0.spots),(11,fI i.2.2.1)]) (fun i=>[aA b1 63 [fSl bG y1.Chans,fSl bQ y1.Spots,fSl bR y1.Rules],aA p0 132 [fI a0.c.Free,fSl aF a0.c.Defs,fSl aH a0.c.Code,fI a0.c.Main,fI a0.chans,fI a0.spots,fEq v1,aJ a0.long],aD i.2.2.2 70 aQ i.2.1,aD v1 67 cA a0.acts]) (fuel,z1,0,v2) H (Sc (Sc (Sc (Sc (Sc (Sc (Sc aV.nil))))))) rfl ?_
 clear H;rintro⟨k1,x4,x5,v5⟩ H
 replace H:lP a0 y1 k1 x4 x5=_:=H
 try dsimp only
 obtain _ | k1:=k1
 rw [lP]at H;cases H
 rw [lP]at H
 refine aB 2 rfl (fun hc_v5=>?_)
 refine aL ?_
 refine Z7 ?_
 revert H;refine is (fun c1 H=>?_) fun c1 H=>?_
 refine Z3 ?_
 refine aL ?_
 refine Z8 ?_
 revert H;refine bs fun z2 h3 H=>?_
 refine Z1 ?_
 refine Yy (eS (ψs:=[fI 3,fI z2]) rfl oP rfl (aZ.cons (has rfl) (bY (aG trivial)) (aZ.cons (has rfl) (bY (aG trivial)) aZ.nil)) rfl) ?_
 refine fP trivial rfl rfl (eQ (t:=aQ) (xs:=[(⟨3,z2⟩:SolVal)]) rfl (et rfl) (bS.cons rfl (has rfl) bP bS.nil) rfl rfl rfl) (fun b2=>?_)
 generalize (Value.slice (some ⟨b2,0,none⟩) _ _)=v6
 refine aB 0 rfl (fun hc_v6=>?_)
 revert H;refine bs fun z3 h4 H=>?_
 refine bC ?_
 refine aP ?_
 refine gJ trivial rfl rfl rfl (has rfl) (has rfl) (et rfl) rfl h4 (fun v7=>?_)
 refine aB 0 rfl (fun hc_v7=>?_)
 refine Z6 ?_
 revert H;refine bs fun z4 h5 H=>?_
 refine Z3 ?_
 refine aC [1,2,0,3] (by decide) ?_
 exact bB ((k1,z3,z4,v7)) ⟨H,Nat.lt_succ_self _⟩ (Sc (Sc (Sc (Sc (Sc (Sc (Sc aV.nil))))))) rfl
 refine Z6 ?_
 exact bB ((x4,v5)) (Option.some.inj H).symm (Sc (Sc (Sc (Sc (Sc (Sc aV.nil)))))) rfl
 clear H;intro i hi;obtain⟨x1,v3⟩:=i;subst o1;have H:=Hr1;clear Hr1;try dsimp only at H
 try dsimp only
 refine aB 2 rfl (fun hc_v3=>?_)
 revert H;refine bs fun o2 H Hr2=>?_
 refine aT (ι:=List SolVal × Value) (fun i=>o2=i.1) (fun i=>[(0,fEq (ptr p0)),(1,fI a1),(2,fI a2),(3,fEq i.2),(9,fEq (ptr b1)),(10,fI a0.spots)]) (fun i=>[aA b1 63 [fSl bG y1.Chans,fSl bQ y1.Spots,fSl bR y1.Rules],aA p0 132 [fI a0.c.Free,fSl aF a0.c.Defs,fSl aH a0.c.Code,fI a0.c.Main,fI a0.chans,fI a0.spots,fEq v1,aJ a0.long],aD i.2 70 aQ i.1,aD v1 67 cA a0.acts]) ?_ ?_
 refine Z4 ?_
 refine iT (ι:=Nat × List SolVal × Int × Value) (fun i=>mM a0 y1 i.1 i.2.1 i.2.2.1=_) (fun i=>i.1) (fun i=>[(0,fEq (ptr p0)),(1,fI a1),(2,fI a2),(3,fEq i.2.2.2),(9,fEq (ptr b1)),(10,fI a0.spots),(12,fI i.2.2.1)]) (fun i=>[aA b1 63 [fSl bG y1.Chans,fSl bQ y1.Spots,fSl bR y1.Rules],aA p0 132 [fI a0.c.Free,fSl aF a0.c.Defs,fSl aH a0.c.Code,fI a0.c.Main,fI a0.chans,fI a0.spots,fEq v1,aJ a0.long],aD i.2.2.2 70 aQ i.2.1,aD v1 67 cA a0.acts]) (fuel,x1,0,v3) H (Sc (Sc (Sc (Sc (Sc (Sc (Sc aV.nil))))))) rfl ?_
 clear H;rintro⟨k2,x9,x10,v10⟩ H
 replace H:mM a0 y1 k2 x9 x10=_:=H
 try dsimp only
 obtain _ | k2:=k2
 rw [mM]at H;cases H
 rw [mM]at H
 refine aB 2 rfl (fun hc_v10=>?_)
 refine aL ?_
 refine Z7 ?_
 revert H;refine is (fun c2 H=>?_) fun c2 H=>?_
 refine Z3 ?_
 refine aL ?_
 refine Z8 ?_
 revert H;refine bs fun z5 h6 H=>?_
 refine Z1 ?_
 refine Yy (eS (ψs:=[fI 4,fI z5]) rfl oP rfl (aZ.cons (has rfl) (bY (aG trivial)) (aZ.cons (has rfl) (bY (aG trivial)) aZ.nil)) rfl) ?_
 refine fP trivial rfl rfl (eQ (t:=aQ) (xs:=[(⟨4,z5⟩:SolVal)]) rfl (et rfl) (bS.cons rfl (has rfl) bP bS.nil) rfl rfl rfl) (fun b3=>?_)
 generalize (Value.slice (some ⟨b3,0,none⟩) _ _)=v11
 refine aB 0 rfl (fun hc_v11=>?_)
 revert H;refine bs fun z6 h7 H=>?_
 refine bC ?_
 refine aP ?_
 refine gJ trivial rfl rfl rfl (has rfl) (has rfl) (et rfl) rfl h7 (fun v12=>?_)
 refine aB 0 rfl (fun hc_v12=>?_)
 refine Z6 ?_
 revert H;refine bs fun z7 h8 H=>?_
 refine Z3 ?_
 refine aC [1,2,0,3] (by decide) ?_
 exact bB ((k2,z6,z7,v12)) ⟨H,Nat.lt_succ_self _⟩ (Sc (Sc (Sc (Sc (Sc (Sc (Sc aV.nil))))))) rfl
 refine Z6 ?_
 exact bB ((x9,v10)) (Option.some.inj H).symm (Sc (Sc (Sc (Sc (Sc (Sc aV.nil)))))) rfl
 clear H;intro i hi;obtain⟨x6,v8⟩:=i;subst o2;have H:=Hr2;clear Hr2;try dsimp only at H
 try dsimp only
 refine aB 2 rfl (fun hc_v8=>?_)
 refine aL ?_
 revert H;refine bs fun z8 h9 H=>?_
 apply bO (ods:=[_,_,_,_,_,_,_,_,_,_,_,_]) 12 0 4 bM rfl rfl rfl
 refine ND ?_
 refine M8 ?_
 intros
 refine M3 ?_
 intros
 refine sY (od:=odC [1] true (fK) [aA p0 132 [fI a0.c.Free,fSl aF a0.c.Defs,fSl aH a0.c.Code,fI a0.c.Main,fI z8,fI a0.spots,fEq v1,aJ a0.long]]) (p:=1) (φs':=[fI a0.c.Free,fSl aF a0.c.Defs,fSl aH a0.c.Code,fI a0.c.Main,fI z8,fI a0.spots,fEq v1,aJ a0.long]) rfl (fun _=>rfl) (fun _=>rfl) trivial rfl rfl rfl (has rfl) (has rfl) (aG trivial) (sz rfl) rfl rfl (fun _=>?_)
 refine Z2 ?_
 refine aL ?_
 revert H;refine bs fun z9 h10 H=>?_
 apply bO (ods:=[_,_,_,_,_,_,_,_,_,_,_,_]) 12 0 4 bM rfl rfl rfl
 refine ND ?_
 refine M8 ?_
 intros
 refine M3 ?_
 intros
 refine sY (od:=odC [1] true (fK) [aA p0 132 [fI a0.c.Free,fSl aF a0.c.Defs,fSl aH a0.c.Code,fI a0.c.Main,fI z8,fI z9,fEq v1,aJ a0.long]]) (p:=1) (φs':=[fI a0.c.Free,fSl aF a0.c.Defs,fSl aH a0.c.Code,fI a0.c.Main,fI z8,fI z9,fEq v1,aJ a0.long]) rfl (fun _=>rfl) (fun _=>rfl) trivial rfl rfl rfl (has rfl) (has rfl) (aG trivial) (sz rfl) rfl rfl (fun _=>?_)
 refine Z2 ?_
 revert H;refine bs fun o3 H Hr3=>?_
 refine aT (ι:=Bool) (fun i=>o3=i) (fun i=>[(0,fEq (ptr p0)),(1,fI a1),(2,fI a2),(3,fEq v8),(9,fEq (ptr b1)),(10,fI a0.spots)]) (fun i=>[aA p0 132 [fI a0.c.Free,fSl aF a0.c.Defs,fSl aH a0.c.Code,fI a0.c.Main,fI z8,fI z9,fEq v1,aJ i],aA b1 63 [fSl bG y1.Chans,fSl bQ y1.Spots,fSl bR y1.Rules],aD v8 70 aQ x6,aD v1 67 cA a0.acts]) ?_ ?_
 refine Z7 ?_
 revert H;refine cs (fun c3 H=>?_) fun c3 H=>?_
 refine Z12 ?_
 refine Z3 ?_
 refine aP ?_
 refine bW (φs':=[fI a0.c.Free,fSl aF a0.c.Defs,fSl aH a0.c.Code,fI a0.c.Main,fI z8,fI z9,fEq v1,aJ true]) trivial rfl rfl (has rfl) (has rfl) (aG trivial) (sz rfl) rfl rfl ?_
 refine Z1 ?_
 exact bB (true) (Option.some.inj H).symm (Sc (Sc (Sc (Sc (Sc (Sc aV.nil)))))) rfl
 refine Z7 ?_
 revert H;refine is (fun c4 H=>?_) fun c4 H=>?_
 refine Z8 ?_
 refine aP ?_
 refine bW (φs':=[fI a0.c.Free,fSl aF a0.c.Defs,fSl aH a0.c.Code,fI a0.c.Main,fI z8,fI z9,fEq v1,aJ true]) trivial rfl rfl (has rfl) (has rfl) (aG trivial) (sz rfl) rfl rfl ?_
 refine Z1 ?_
 exact bB (true) (Option.some.inj H).symm (Sc (Sc (Sc (Sc (Sc (Sc aV.nil)))))) rfl
 refine Z8 ?_
 refine aP ?_
 refine bW (φs':=[fI a0.c.Free,fSl aF a0.c.Defs,fSl aH a0.c.Code,fI a0.c.Main,fI z8,fI z9,fEq v1,aJ (decide (24<z9))]) trivial rfl rfl (has rfl) (has rfl) (aG trivial) (sz rfl) rfl rfl ?_
 refine Z1 ?_
 exact bB (decide (24<z9)) (Option.some.inj H).symm (Sc (Sc (Sc (Sc (Sc (Sc aV.nil)))))) rfl
 clear H;intro x11 hi;subst o3;have H:=Hr3;clear Hr3;try dsimp only at H
 try dsimp only
 refine Z5 ?_
 refine bC ?_
 refine aP ?_
 refine jV (x:=(⟨(⟨a0.c.Free,a0.c.Defs,a0.c.Code,a0.c.Main⟩:CodeProg),z8,z9,a0.acts,x11⟩:bL)) ?_
 refine aO ?_
 refine hZ (φ:=fSl aQ x6) (v:=v8) [3,108] fS fz ?_
 refine gV ?_
 refine xO ?_
 refine aP ?_
 revert H;refine bs fun y2 h11 H=>?_
 refine dE trivial rfl rfl rfl hh (aE.cons hh (aE.cons hh (aE.cons hh (aE.cons hh (aE.cons hh aE.nil))))) rfl (cb rfl) (zC p0 cV (fSl aQ x6) [] (⟨(⟨a0.c.Free,a0.c.Defs,a0.c.Code,a0.c.Main⟩:CodeProg),z8,z9,a0.acts,x11⟩:bL) 3 a2 a1 x6 y2 aAq (zI Ent.rfl) h11) rfl ?_
 refine kZ (fun v13=>?_)
 refine aB 1 rfl (fun hc_v13=>?_)
 refine Z1 ?_
 revert H;refine bs fun o4 H Hr4=>?_
 refine aT (ι:=Int × List ScopeDef × List CodeIns × Int × Int × Int × List CodeAct × Bool × Value) (fun i=>o4=(i.1,i.2.1,i.2.2.1,i.2.2.2.1,i.2.2.2.2.1,i.2.2.2.2.2.1,i.2.2.2.2.2.2.1,i.2.2.2.2.2.2.2.1)) (fun i=>[(0,fEq (ptr p0)),(3,fSl aQ x6)]) (fun i=>[aA p0 132 [fI i.1,fSl aF i.2.1,fSl aH i.2.2.1,fI i.2.2.2.1,fI i.2.2.2.2.1,fI i.2.2.2.2.2.1,fEq i.2.2.2.2.2.2.2.2,aJ i.2.2.2.2.2.2.2.1],aA b1 63 [fSl bG y1.Chans,fSl bQ y1.Spots,fSl bR y1.Rules],aD i.2.2.2.2.2.2.2.2 67 cA i.2.2.2.2.2.2.1]) ?_ ?_
 refine Z4 ?_
 refine aC [0,3,1] (by decide) ?_
 refine iT (ι:=Nat × Int × Int × List ScopeDef × List CodeIns × Int × Int × Int × List CodeAct × Bool × Value) (fun i=>gS (fL fuel) a0 y1 x6 i.1 i.2.1 i.2.2.1 i.2.2.2.1 i.2.2.2.2.1 i.2.2.2.2.2.1 i.2.2.2.2.2.2.1 i.2.2.2.2.2.2.2.1 i.2.2.2.2.2.2.2.2.1 i.2.2.2.2.2.2.2.2.2.1=_) (fun i=>i.1) (fun i=>[(0,fEq (ptr p0)),(3,fSl aQ x6),(9,fEq (ptr b1)),(10,fI a0.spots),(13,fI i.2.1)]) (fun i=>[aA p0 132 [fI i.2.2.1,fSl aF i.2.2.2.1,fSl aH i.2.2.2.2.1,fI i.2.2.2.2.2.1,fI i.2.2.2.2.2.2.1,fI i.2.2.2.2.2.2.2.1,fEq i.2.2.2.2.2.2.2.2.2.2,aJ i.2.2.2.2.2.2.2.2.2.1],aA b1 63 [fSl bG y1.Chans,fSl bQ y1.Spots,fSl bR y1.Rules],aD i.2.2.2.2.2.2.2.2.2.2 67 cA i.2.2.2.2.2.2.2.2.1]) (fuel,0,y2.c.Free,y2.c.Defs,y2.c.Code,y2.c.Main,y2.chans,y2.spots,y2.acts,y2.long,v13) H (Sc (Sc (Sc (Sc (Sc aV.nil))))) rfl ?_
 clear H;rintro⟨k3,x29,x30,x31,x32,x33,x34,x35,x36,x37,v16⟩ H
 replace H:gS (fL fuel) a0 y1 x6 k3 x29 x30 x31 x32 x33 x34 x35 x36 x37=_:=H
 try dsimp only
 obtain _ | k3:=k3
 rw [gS]at H;cases H
 rw [gS]at H
 refine aB 2 rfl (fun hc_v16=>?_)
 refine aL ?_
 refine Z7 ?_
 revert H;refine is (fun c5 H=>?_) fun c5 H=>?_
 refine Z7 ?_
 revert H;refine cs (fun c6 H=>?_) fun c6 H=>?_
 refine Z6 ?_
 exact bB ((x30,x31,x32,x33,x34,x35,x36,x37,v16)) (Option.some.inj H).symm (Sc (Sc aV.nil)) rfl
 refine Z3 ?_
 refine aL ?_
 refine Z6 ?_
 revert H;refine bs fun y3 h12 H=>?_
 refine Z5 ?_
 revert H;refine bs fun z10 h13 H=>?_
 refine Z2 ?_
 refine aO ?_
 refine aP ?_
 refine jV (x:=(⟨(⟨x30,x31,x32,x33⟩:CodeProg),x34,x35,x36,x37⟩:bL)) ?_
 revert H;refine bs fun y4 h14 H=>?_
 refine dE trivial rfl rfl rfl hh (aE.cons hh (aE.cons hh (aE.cons hh (aE.cons hh aE.nil)))) rfl (cb rfl) (ih_r09_doer_run p0 (⟨(⟨x30,x31,x32,x33⟩:CodeProg),x34,x35,x36,x37⟩:bL) y3.Node z10 x6 y4 h14) rfl ?_
 refine kZ (fun v17=>?_)
 refine aB 1 rfl (fun hc_v17=>?_)
 refine Z5 ?_
 revert H;refine bs fun z11 h15 H=>?_
 refine Z3 ?_
 refine aC [0,2,1] (by decide) ?_
 exact bB ((k3,z11,y4.c.Free,y4.c.Defs,y4.c.Code,y4.c.Main,y4.chans,y4.spots,y4.acts,y4.long,v17)) ⟨H,Nat.lt_succ_self _⟩ (Sc (Sc (Sc (Sc (Sc aV.nil))))) rfl
 refine Z12 ?_
 refine Z1 ?_
 exact bB ((x30,x31,x32,x33,x34,x35,x36,x37,v16)) (Option.some.inj H).symm (Sc (Sc aV.nil)) rfl
 clear H;intro i hi;obtain⟨x12,x13,x14,x15,x16,x17,x18,x19,v14⟩:=i;subst o4;have H:=Hr4;clear Hr4;try dsimp only at H
 try dsimp only
 refine aB 2 rfl (fun hc_v14=>?_)
 refine Z5 ?_
 refine aO ?_
 refine aP ?_
 refine jV (x:=(⟨(⟨x12,x13,x14,x15⟩:CodeProg),x16,x17,x18,x19⟩:bL)) ?_
 cases H
 refine aC [0] (by decide) ?_
 exact eB rfl (bV rfl) rfl
 exact fk
 kernel_rfl
 exact fk
 kernel_rfl
theorem aGa (fuel:Nat) (p0:Nat) (a0:bL) (a1:Int) (a2:Int) (a3:List SolVal) (r:bL) (H:fL fuel a0 a1 a2 a3=some r):FnS Tryz.prog 57 [fEq (.pointer (some ⟨p0,0,none⟩)),fI a1,fI a2,fSl aQ a3] [kT p0 a0] (dJ []) (fun _=>[kT p0 r]):=(aFC fuel).1 p0 a0 a1 a2 a3 r H
open Go.SX Go.SW Go.Dt
def lF (a0:CodeProg) (a1:Ref09_Doing):Nat → Int → Option ((Unit) ⊕ ((List CodeAct) × Int))
| 0,_=>none
| k+1,x2=>
 if x2<(a1.Env.length:Int)then
  (idx a1.Env x2).bind fun y5=>
  (wN (⟨a0.Free,a0.Defs,a0.Code,a0.Main⟩:CodeProg) y5 (⟨a1.Start,a1.Here,a1.Env,a1.Chans,a1.Spots⟩:Ref09_Doing)).bind fun y6=>
  bif y6 then
   (chk (x2+1)).bind fun z1=>
   lF a0 a1 k z1
  else
   (some ([],2)).bind fun r=>some (Sum.inr r)
 else
  some (Sum.inl ())
def jF (fuel:Nat) (a0:CodeProg) (a1:Ref09_Doing):Option ((List CodeAct) × Int):=
 (pP fuel (⟨a0.Free,a0.Defs,a0.Code,a0.Main⟩:CodeProg)).bind fun y1=>
 if y1.2≠0 then
  some ([],y1.2)
 else
  (rS fuel (⟨a0.Free,a0.Defs,a0.Code,a0.Main⟩:CodeProg)).bind fun y2=>
  (rO fuel y2 a1.Start).bind fun y3=>
  bif !y3 then
   some ([],2)
  else
   (idx y1.1 a1.Start).bind fun y4=>
   if (a1.Env.length:Int)≠y4.Slots then
    some ([],2)
   else
    if a1.Chans<0 then
     some ([],2)
    else
     if 60<a1.Chans then
      some ([],2)
     else
      if a1.Spots<1 then
       some ([],2)
      else
       if 24<a1.Spots then
        some ([],2)
       else
        if a1.Here<0 then
         some ([],2)
        else
         if a1.Spots ≤ a1.Here then
          some ([],2)
         else
          (lF a0 a1 fuel 0).bind fun o=>match o with
          | Sum.inr r=>some r
          | Sum.inl _=>
          (fL fuel (⟨(⟨a0.Free,a0.Defs,a0.Code,a0.Main⟩:CodeProg),a1.Chans,a1.Spots,[],false⟩:bL) a1.Start a1.Here a1.Env).bind fun y7=>
          bif y7.long then
           some ([],3)
          else
           some (y7.acts,0)
theorem r09_Do_w (fuel:Nat)  (a0:CodeProg) (a1:Ref09_Doing) (r:(List CodeAct) × Int) (H:jF fuel a0 a1=some r):FnS Tryz.prog 18 [fSt fR a0,fSt vV a1] [] (dJ [fSl cA r.1,fI r.2]) (fun _=>[]):=by
 unfold jF at H
 refine cD Tryz.func18 rfl Tryz.ntmps18 rfl (fun β=>?_)
 refine Z1 ?_
 refine Tn (cG rfl hh bP) fun b1=>?_
 refine Tn (cG rfl hh bP) fun b2=>?_
 revert H;refine B5 fun y1 h1 H=>?_
 refine Tc (aHE _ _ _ h1) ?_
 refine Z6 ?_
 refine aL ?_
 revert H;refine I4 (fun c1 H=>?_) fun c1 H=>?_
 refine Z7 ?_
 cases H
 refine aC [] (by decide) ?_
 exact gZ rfl (iX rfl dK) (bV rfl) rfl
 refine Z3 ?_
 refine aL ?_
 refine aL ?_
 revert H;refine bs fun y2 h2 H=>?_
 revert H;refine bs fun y3 h3 H=>?_
 revert H;refine cs (fun c2 H=>?_) fun c2 H=>?_
 apply bO (ods:=[_,_,_,_,_,_,_,_,_,_,_,_,_,_,_,_,_,_,_,_,_,_,_,_,_,_,_,_,_,_,_,_,_,_,_,_,_,_,_,_,_,_,_,_,_,_,_,_,_,_]) 50 0 2 bM rfl rfl rfl
 refine ND ?_
 refine M1 ?_
 intros
 refine Nc (nI _ _ _ h2) fun _=>?_
 refine M2 ?_
 intros
 refine Nc (lI _ _ _ _ h3) fun _=>?_
 refine M8 ?_
 intros
 refine M8 ?_
 intros
 refine M8 ?_
 intros
 refine M8 ?_
 intros
 refine M8 ?_
 intros
 refine M5 ?_
 intros
 refine Z8 ?_
 cases H
 refine aC [] (by decide) ?_
 exact gZ rfl (iX rfl dK) (bV rfl) rfl
 exact fk
 kernel_rfl
 revert H;refine bs fun y4 h4 H=>?_
 revert H;refine is (fun c3 H=>?_) fun c3 H=>?_
 apply bO (ods:=[_,_,_,_,_,_,_,_,_,_,_,_,_,_,_,_,_,_,_,_,_,_,_,_,_,_,_,_,_,_,_,_,_,_,_,_,_,_,_,_,_,_,_,_,_,_,_,_,_,_]) 50 0 2 bM rfl rfl rfl
 refine ND ?_
 refine M1 ?_
 intros
 refine Nc (nI _ _ _ h2) fun _=>?_
 refine M2 ?_
 intros
 refine Nc (lI _ _ _ _ h3) fun _=>?_
 refine M8 ?_
 intros
 refine M8 ?_
 intros
 refine M8 ?_
 intros
 refine M8 ?_
 intros
 refine M8 ?_
 intros
 refine M5 ?_
 intros
 refine Z8 ?_
 cases H
 refine aC [] (by decide) ?_
 exact gZ rfl (iX rfl dK) (bV rfl) rfl
 exact fk
 kernel_rfl
 revert H;refine is (fun c4 H=>?_) fun c4 H=>?_
 apply bO (ods:=[_,_,_,_,_,_,_,_,_,_,_,_,_,_,_,_,_,_,_,_,_,_,_,_,_,_,_,_,_,_,_,_,_,_,_,_,_,_,_,_,_,_,_,_,_,_,_,_,_,_]) 50 0 2 bM rfl rfl rfl
 refine ND ?_
 refine M1 ?_
 intros
 refine Nc (nI _ _ _ h2) fun _=>?_
 refine M2 ?_
 intros
 refine Nc (lI _ _ _ _ h3) fun _=>?_
 refine M8 ?_
 intros
 refine M8 ?_
 intros
 refine M8 ?_
 intros
 refine M8 ?_
 intros
 refine M8 ?_
 intros
 refine M5 ?_
 intros
 refine Z8 ?_
 cases H
 refine aC [] (by decide) ?_
 exact gZ rfl (iX rfl dK) (bV rfl) rfl
 exact fk
 kernel_rfl
 revert H;refine is (fun c5 H=>?_) fun c5 H=>?_
 apply bO (ods:=[_,_,_,_,_,_,_,_,_,_,_,_,_,_,_,_,_,_,_,_,_,_,_,_,_,_,_,_,_,_,_,_,_,_,_,_,_,_,_,_,_,_,_,_,_,_,_,_,_,_]) 50 0 2 bM rfl rfl rfl
 refine ND ?_
 refine M1 ?_
 intros
 refine Nc (nI _ _ _ h2) fun _=>?_
 refine M2 ?_
 intros
 refine Nc (lI _ _ _ _ h3) fun _=>?_
 refine M8 ?_
 intros
 refine M8 ?_
 intros
 refine M8 ?_
 intros
 refine M8 ?_
 intros
 refine M8 ?_
 intros
 refine M5 ?_
 intros
 refine Z8 ?_
 cases H
 refine aC [] (by decide) ?_
 exact gZ rfl (iX rfl dK) (bV rfl) rfl
 exact fk
 kernel_rfl
 revert H;refine is (fun c6 H=>?_) fun c6 H=>?_
 apply bO (ods:=[_,_,_,_,_,_,_,_,_,_,_,_,_,_,_,_,_,_,_,_,_,_,_,_,_,_,_,_,_,_,_,_,_,_,_,_,_,_,_,_,_,_,_,_,_,_,_,_,_,_]) 50 0 2 bM rfl rfl rfl
 refine ND ?_
 refine M1 ?_
 intros
 refine Nc (nI _ _ _ h2) fun _=>?_
 refine M2 ?_
 intros
 refine Nc (lI _ _ _ _ h3) fun _=>?_
 refine M8 ?_
 intros
 refine M8 ?_
 intros
 refine M8 ?_
 intros
 refine M8 ?_
 intros
 refine M8 ?_
 intros
 refine M5 ?_
 intros
 refine Z8 ?_
 cases H
 refine aC [] (by decide) ?_
 exact gZ rfl (iX rfl dK) (bV rfl) rfl
 exact fk
 kernel_rfl
 revert H;refine is (fun c7 H=>?_) fun c7 H=>?_
 apply bO (ods:=[_,_,_,_,_,_,_,_,_,_,_,_,_,_,_,_,_,_,_,_,_,_,_,_,_,_,_,_,_,_,_,_,_,_,_,_,_,_,_,_,_,_,_,_,_,_,_,_,_,_]) 50 0 2 bM rfl rfl rfl
 refine ND ?_
 refine M1 ?_
 intros
 refine Nc (nI _ _ _ h2) fun _=>?_
 refine M2 ?_
 intros
 refine Nc (lI _ _ _ _ h3) fun _=>?_
 refine M8 ?_
 intros
 refine M8 ?_
 intros
 refine M8 ?_
 intros
 refine M8 ?_
 intros
 refine M8 ?_
 intros
 refine M5 ?_
 intros
 refine Z8 ?_
 cases H
 refine aC [] (by decide) ?_
 exact gZ rfl (iX rfl dK) (bV rfl) rfl
 exact fk
 kernel_rfl
 revert H;refine is (fun c8 H=>?_) fun c8 H=>?_
 apply bO (ods:=[_,_,_,_,_,_,_,_,_,_,_,_,_,_,_,_,_,_,_,_,_,_,_,_,_,_,_,_,_,_,_,_,_,_,_,_,_,_,_,_,_,_,_,_,_,_,_,_,_,_]) 50 0 2 bM rfl rfl rfl
 refine ND ?_
 refine M1 ?_
 intros
 refine Nc (nI _ _ _ h2) fun _=>?_
 refine M2 ?_
 intros
 refine Nc (lI _ _ _ _ h3) fun _=>?_
 refine M8 ?_
 intros
 refine M8 ?_
 intros
 refine M8 ?_
 intros
 refine M8 ?_
 intros
 refine M8 ?_
 intros
 refine M5 ?_
 intros
 refine Z8 ?_
 cases H
 refine aC [] (by decide) ?_
 exact gZ rfl (iX rfl dK) (bV rfl) rfl
 exact fk
 kernel_rfl
 apply bO (ods:=[_,_,_,_,_,_,_,_,_,_,_,_,_,_,_,_,_,_,_,_,_,_,_,_,_,_,_,_,_,_,_,_,_,_,_,_,_,_,_,_,_,_,_,_,_,_,_,_,_,_]) 50 0 2 bM rfl rfl rfl
 refine ND ?_
 refine M1 ?_
 intros
 refine Nc (nI _ _ _ h2) fun _=>?_
 refine M2 ?_
 intros
 refine Nc (lI _ _ _ _ h3) fun _=>?_
 refine M8 ?_
 intros
 refine M8 ?_
 intros
 refine M8 ?_
 intros
 refine M8 ?_
 intros
 refine M8 ?_
 intros
 refine M5 ?_
 intros
 revert H;refine I2 (fun c9 H=>?_) fun c9 H=>?_
 refine Z6 ?_
 cases H
 refine aC [] (by decide) ?_
 exact gZ rfl (iX rfl dK) (bV rfl) rfl
 revert H;refine B3 fun o1 H Hr1=>?_
 refine aT (ι:=Unit) (fun i=>o1=Sum.inl ()) (fun i=>[(2,fEq (ptr b1)),(3,fEq (ptr b2))]) (fun i=>[aA b2 47 [fI a1.Start,fI a1.Here,fSl aQ a1.Env,fI a1.Chans,fI a1.Spots],aA b1 25 [fI a0.Free,fSl aF a0.Defs,fSl aH a0.Code,fI a0.Main]]) ?_ ?_
 refine Z4 ?_
 refine Tl (ι:=Nat × Int) (fun i=>lF a0 a1 i.1 i.2=_) (fun i=>i.1) (fun i=>[(2,fEq (ptr b1)),(3,fEq (ptr b2)),(8,fI i.2)]) (fun i=>[aA b2 47 [fI a1.Start,fI a1.Here,fSl aQ a1.Env,fI a1.Chans,fI a1.Spots],aA b1 25 [fI a0.Free,fSl aF a0.Defs,fSl aH a0.Code,fI a0.Main]]) (fuel,0) H ?_
 clear H;rintro⟨k1,x2⟩ H
 replace H:lF a0 a1 k1 x2=_:=H
 try dsimp only
 obtain _ | k1:=k1
 rw [lF]at H;cases H
 rw [lF]at H
 refine aL ?_
 revert H;refine I7 (fun c10 H=>?_) fun c10 H=>?_
 refine Z3 ?_
 refine aL ?_
 refine Z1 ?_
 refine aL ?_
 revert H;refine bs fun y5 h5 H=>?_
 revert H;refine bs fun y6 h6 H=>?_
 apply bO (ods:=[_,_,_,_,_,_,_,_,_]) 9 0 2 bM rfl rfl rfl
 refine ND ?_
 refine M7 ?_
 intros
 refine Nc (aF9 _ _ _ _ h6) fun _=>?_
 refine M1 ?_
 intros
 refine Z2 ?_
 revert H;refine cs (fun c11 H=>?_) fun c11 H=>?_
 revert H;refine B6 fun z1 h7 H=>?_
 refine Z3 ?_
 exact Tm ((k1,z1)) ⟨H,ls⟩
 revert H;refine B11 fun r1 H e1=>?_
 cases e1;cases Hr1
 cases H
 refine aC [] (by decide) ?_
 exact gZ rfl (iX rfl dK) (bV rfl) rfl
 exact fk
 kernel_rfl
 refine Z6 ?_
 exact Tm (()) (ij H)
 clear H;intro i hi;subst o1;have H:=Hr1;clear Hr1;try dsimp only at H
 try dsimp only
 refine Z6 ?_
 refine Yy (eS (ψs:=[fI a0.Free,fSl aF a0.Defs,fSl aH a0.Code,fI a0.Main,fI a1.Chans,fI a1.Spots,fEq (.slice none 0 0),aJ false]) rfl aG4 rfl (aZ.cons (has rfl) bP (aZ.cons (has rfl) (bY (aG trivial)) (aZ.cons (has rfl) (bY (aG trivial)) aZ.nil))) rfl) ?_
 refine Tn (cG rfl hh bP) fun b3=>?_
 refine Z10 ?_
 refine eW cA 67 ?_
 refine aP ?_
 refine jV (x:=(⟨(⟨a0.Free,a0.Defs,a0.Code,a0.Main⟩:CodeProg),a1.Chans,a1.Spots,[],false⟩:bL)) ?_
 revert H;refine bs fun y7 h8 H=>?_
 refine Tc (aGa _ _ _ _ _ _ _ h8) ?_
 refine kZ (fun v1=>?_)
 refine aB 1 rfl (fun hc_v1=>?_)
 refine Z1 ?_
 refine aL ?_
 refine Z6 ?_
 revert H;refine cs (fun c12 H=>?_) fun c12 H=>?_
 refine Z6 ?_
 cases H
 refine aC [] (by decide) ?_
 exact gZ rfl (iX rfl dK) (bV rfl) rfl
 refine Z12 ?_
 refine aP ?_
 refine hZ (φ:=fSl cA y7.acts) (v:=v1) [106,4] fS fz ?_
 refine oI (φs':=[fI y7.c.Free,fSl aF y7.c.Defs,fSl aH y7.c.Code,fI y7.c.Main,fI y7.chans,fI y7.spots,fSl cA y7.acts,aJ y7.long]) (i:=6) rfl rfl ?_
 refine gV ?_
 cases H
 refine aC [] (by decide) ?_
 exact gZ rfl (bV rfl) (bV rfl) rfl
 exact fk
 kernel_rfl
def nJ (a0:List SolVal) (a1:List SolVal):Nat → Int → Option ((Unit) ⊕ (Bool))
| 0,_=>none
| k+1,x2=>
 if x2<(a0.length:Int)then
  (idx a0 x2).bind fun y1=>
  (idx a1 x2).bind fun y2=>
  bif decide (y1.Kind=y2.Kind) && decide (y1.N=y2.N)then
   (chk (x2+1)).bind fun z1=>
   nJ a0 a1 k z1
  else
   (some false).bind fun r=>some (Sum.inr r)
 else
  some (Sum.inl ())
def wW (fuel:Nat) (a0:List SolVal) (a1:List SolVal):Option (Bool):=
 if (a0.length:Int)≠(a1.length:Int)then
  some false
 else
  (nJ a0 a1 fuel 0).bind fun o=>match o with
  | Sum.inr r=>some r
  | Sum.inl _=>
  some true
theorem aFQ (fuel:Nat)  (a0:List SolVal) (a1:List SolVal) (r:Bool) (H:wW fuel a0 a1=some r):FnS Tryz.prog 58 [fSl aQ a0,fSl aQ a1] [] (aJ r) (fun _=>[]):=by
 unfold wW at H
 refine cD Tryz.func58 rfl Tryz.ntmps58 rfl (fun β=>?_)
 refine Z3 ?_
 refine aL ?_
 revert H;refine I7 (fun c1 H=>?_) fun c1 H=>?_
 refine Z5 ?_
 cases H
 exact To
 revert H;refine B3 fun o1 H Hr1=>?_
 refine aT (ι:=Unit) (fun i=>o1=Sum.inl ()) (fun i=>[]) (fun i=>[]) ?_ ?_
 refine Z4 ?_
 refine Tl (ι:=Nat × Int) (fun i=>nJ a0 a1 i.1 i.2=_) (fun i=>i.1) (fun i=>[(0,fSl aQ a0),(1,fSl aQ a1),(5,fI i.2)]) (fun i=>[]) (fuel,0) H ?_
 clear H;rintro⟨k1,x2⟩ H
 replace H:nJ a0 a1 k1 x2=_:=H
 try dsimp only
 obtain _ | k1:=k1
 rw [nJ]at H;cases H
 rw [nJ]at H
 refine aL ?_
 revert H;refine I6 (fun c2 H=>?_) fun c2 H=>?_
 refine Z3 ?_
 refine aL ?_
 refine Z1 ?_
 refine aL ?_
 revert H;refine bs fun y1 h1 H=>?_
 revert H;refine bs fun y2 h2 H=>?_
 apply bO (ods:=[_,_,_,_,_,_,_,_,_]) 9 0 0 bM rfl rfl rfl
 refine ND ?_
 refine M8 ?_
 intros
 refine My (aDj rfl hh hh rfl rfl aGy) fun _=>?_
 refine Z2 ?_
 revert H;refine cs (fun c3 H=>?_) fun c3 H=>?_
 revert H;refine B6 fun z1 h3 H=>?_
 refine Z3 ?_
 exact Tm ((k1,z1)) ⟨H,ls⟩
 revert H;refine B10 fun r1 H e1=>?_
 cases e1;cases Hr1
 cases H
 exact To
 exact fk
 kernel_rfl
 refine Z6 ?_
 exact Tm (()) (ij H)
 clear H;intro i hi;subst o1;have H:=Hr1;clear Hr1;try dsimp only at H
 try dsimp only
 refine Z4 ?_
 cases H
 exact To
def nX (fuel:Nat) (a0:List CodeAct) (a1:List CodeAct):Nat → Int → Option ((Unit) ⊕ (Bool))
| 0,_=>none
| k+1,x2=>
 if x2<(a0.length:Int)then
  (idx a0 x2).bind fun y1=>
  (idx a1 x2).bind fun y2=>
  if y1.Deed≠y2.Deed then
   (some false).bind fun r=>some (Sum.inr r)
  else
   (idx a0 x2).bind fun y3=>
   (idx a1 x2).bind fun y4=>
   if y3.At≠y4.At then
    (some false).bind fun r=>some (Sum.inr r)
   else
    (idx a0 x2).bind fun y5=>
    (idx a1 x2).bind fun y6=>
    if y5.N≠y6.N then
     (some false).bind fun r=>some (Sum.inr r)
    else
     (idx a0 x2).bind fun y7=>
     (idx a1 x2).bind fun y8=>
     (wW fuel y7.Vals y8.Vals).bind fun y9=>
     bif y9 then
      (chk (x2+1)).bind fun z1=>
      nX fuel a0 a1 k z1
     else
      (some false).bind fun r=>some (Sum.inr r)
 else
  some (Sum.inl ())
def sU (fuel:Nat) (a0:List CodeAct) (a1:List CodeAct):Option (Bool):=
 if (a0.length:Int)≠(a1.length:Int)then
  some false
 else
  (nX fuel a0 a1 fuel 0).bind fun o=>match o with
  | Sum.inr r=>some r
  | Sum.inl _=>
  some true
theorem aGA (fuel:Nat)  (a0:List CodeAct) (a1:List CodeAct) (r:Bool) (H:sU fuel a0 a1=some r):FnS Tryz.prog 19 [fSl cA a0,fSl cA a1] [] (aJ r) (fun _=>[]):=by
 unfold sU at H
 refine cD Tryz.func19 rfl Tryz.ntmps19 rfl (fun β=>?_)
 refine Z3 ?_
 refine aL ?_
 refine Z7 ?_
 revert H;refine is (fun c1 H=>?_) fun c1 H=>?_
 refine dH hh c1 ?_
 refine Z4 ?_
 cases H
 exact eB rfl (bV rfl) rfl
 refine dG hh c1 ?_
 refine Z2 ?_
 revert H;refine bs fun o1 H Hr1=>?_
 refine aT (ι:=Unit) (fun i=>o1=Sum.inl ()) (fun i=>[]) (fun i=>[]) ?_ ?_
 refine Z4 ?_
 refine iT (ι:=Nat × Int) (fun i=>nX fuel a0 a1 i.1 i.2=_) (fun i=>i.1) (fun i=>[(0,fSl cA a0),(1,fSl cA a1),(5,fI i.2)]) (fun i=>[]) (fuel,0) H (Sc (Sc (Sc aV.nil))) rfl ?_
 clear H;rintro⟨k1,x2⟩ H
 replace H:nX fuel a0 a1 k1 x2=_:=H
 try dsimp only
 obtain _ | k1:=k1
 rw [nX]at H;cases H
 rw [nX]at H
 refine aL ?_
 refine Z6 ?_
 revert H;refine is (fun c2 H=>?_) fun c2 H=>?_
 refine dH hh c2 ?_
 refine Z2 ?_
 refine aL ?_
 refine Z1 ?_
 refine aL ?_
 revert H;refine bs fun y1 h1 H=>?_
 revert H;refine bs fun y2 h2 H=>?_
 revert H;refine is (fun c3 H=>?_) fun c3 H=>?_
 apply bO (ods:=[_,_,_,_,_,_,_,_,_,_,_,_,_,_,_,_,_,_,_,_,_,_,_,_,_,_,_,_,_,_,_,_,_,_,_,_,_,_,_,_,_,_,_,_,_,_,_,_,_,_,_]) 51 0 0 bM rfl rfl rfl
 refine ND ?_
 refine M2 ?_
 intros
 refine My (cO rfl hh hh (el rfl) h1) fun _=>?_
 refine M4 ?_
 intros
 refine My (cO rfl hh hh (el rfl) h2) fun _=>?_
 refine M4 ?_
 intros
 refine Mt c3 fun _=>?_
 refine Mt c3 fun _=>?_
 refine Mt c3 fun _=>?_
 refine Mt c3 fun _=>?_
 refine Mt c3 fun _=>?_
 refine Mt c3 fun _=>?_
 refine Mt c3 fun _=>?_
 refine Mt c3 fun _=>?_
 refine Mt c3 fun _=>?_
 refine Mt c3 fun _=>?_
 refine Mt c3 fun _=>?_
 refine My (dM rfl hh c3 hh) fun _=>?_
 refine M8 ?_
 intros
 refine M8 ?_
 intros
 refine M8 ?_
 intros
 refine M3 ?_
 intros
 refine Z12 ?_
 revert H;refine bs fun r1 H e1=>?_
 have e1:=Option.some.inj e1;subst e1;have Hr1:=Option.some.inj Hr1;subst Hr1
 cases H
 exact eB rfl (bV rfl) rfl
 exact fk
 kernel_rfl
 revert H;refine bs fun y3 h3 H=>?_
 revert H;refine bs fun y4 h4 H=>?_
 revert H;refine is (fun c4 H=>?_) fun c4 H=>?_
 apply bO (ods:=[_,_,_,_,_,_,_,_,_,_,_,_,_,_,_,_,_,_,_,_,_,_,_,_,_,_,_,_,_,_,_,_,_,_,_,_,_,_,_,_,_,_,_,_,_,_,_,_,_,_,_]) 51 0 0 bM rfl rfl rfl
 refine ND ?_
 refine M2 ?_
 intros
 refine My (cO rfl hh hh (el rfl) h1) fun _=>?_
 refine M4 ?_
 intros
 refine My (cO rfl hh hh (el rfl) h2) fun _=>?_
 refine M4 ?_
 intros
 refine Mg c3 (bT rfl hh) fun _=>?_
 refine Mg c3 (bT rfl hh) fun _=>?_
 refine Mg c3 (cO rfl hh hh (el rfl) h3) fun _=>?_
 refine Mg c3 (eH (t':=tI) (z:=y3.At) rfl hh (fa rfl) rfl) fun _=>?_
 refine Mg c3 (eZ rfl hh (sc rfl) rfl) fun _=>?_
 refine Mg c3 (bT rfl hh) fun _=>?_
 refine Mg c3 (bT rfl hh) fun _=>?_
 refine Mg c3 (cO rfl hh hh (el rfl) h4) fun _=>?_
 refine Mg c3 (eH (t':=tI) (z:=y4.At) rfl hh (fa rfl) rfl) fun _=>?_
 refine Mg c3 (eZ rfl hh (sc rfl) rfl) fun _=>?_
 refine Mg c3 (qN rfl hh hh) fun _=>?_
 refine My (cE rfl hh c3 hh) fun _=>?_
 refine M1 ?_
 intros
 refine Mt c4 fun _=>?_
 refine Mt c4 fun _=>?_
 refine Mt c4 fun _=>?_
 refine Mt c4 fun _=>?_
 refine Mt c4 fun _=>?_
 refine Mt c4 fun _=>?_
 refine Mt c4 fun _=>?_
 refine Mt c4 fun _=>?_
 refine Mt c4 fun _=>?_
 refine Mt c4 fun _=>?_
 refine Mt c4 fun _=>?_
 refine My (dM rfl hh c4 hh) fun _=>?_
 refine M8 ?_
 intros
 refine M6 ?_
 intros
 refine Z12 ?_
 revert H;refine bs fun r2 H e2=>?_
 have e2:=Option.some.inj e2;subst e2;have Hr1:=Option.some.inj Hr1;subst Hr1
 cases H
 exact eB rfl (bV rfl) rfl
 exact fk
 kernel_rfl
 revert H;refine bs fun y5 h5 H=>?_
 revert H;refine bs fun y6 h6 H=>?_
 revert H;refine is (fun c5 H=>?_) fun c5 H=>?_
 apply bO (ods:=[_,_,_,_,_,_,_,_,_,_,_,_,_,_,_,_,_,_,_,_,_,_,_,_,_,_,_,_,_,_,_,_,_,_,_,_,_,_,_,_,_,_,_,_,_,_,_,_,_,_,_]) 51 0 0 bM rfl rfl rfl
 refine ND ?_
 refine M2 ?_
 intros
 refine My (cO rfl hh hh (el rfl) h1) fun _=>?_
 refine M4 ?_
 intros
 refine My (cO rfl hh hh (el rfl) h2) fun _=>?_
 refine M4 ?_
 intros
 refine Mg c3 (bT rfl hh) fun _=>?_
 refine Mg c3 (bT rfl hh) fun _=>?_
 refine Mg c3 (cO rfl hh hh (el rfl) h3) fun _=>?_
 refine Mg c3 (eH (t':=tI) (z:=y3.At) rfl hh (fa rfl) rfl) fun _=>?_
 refine Mg c3 (eZ rfl hh (sc rfl) rfl) fun _=>?_
 refine Mg c3 (bT rfl hh) fun _=>?_
 refine Mg c3 (bT rfl hh) fun _=>?_
 refine Mg c3 (cO rfl hh hh (el rfl) h4) fun _=>?_
 refine Mg c3 (eH (t':=tI) (z:=y4.At) rfl hh (fa rfl) rfl) fun _=>?_
 refine Mg c3 (eZ rfl hh (sc rfl) rfl) fun _=>?_
 refine Mg c3 (qN rfl hh hh) fun _=>?_
 refine My (cE rfl hh c3 hh) fun _=>?_
 refine M1 ?_
 intros
 refine Mg c4 (bT rfl hh) fun _=>?_
 refine Mg c4 (bT rfl hh) fun _=>?_
 refine Mg c4 (cO rfl hh hh (el rfl) h5) fun _=>?_
 refine Mg c4 (eH (t':=tI) (z:=y5.N) rfl hh (fa rfl) rfl) fun _=>?_
 refine Mg c4 (eZ rfl hh (sc rfl) rfl) fun _=>?_
 refine Mg c4 (bT rfl hh) fun _=>?_
 refine Mg c4 (bT rfl hh) fun _=>?_
 refine Mg c4 (cO rfl hh hh (el rfl) h6) fun _=>?_
 refine Mg c4 (eH (t':=tI) (z:=y6.N) rfl hh (fa rfl) rfl) fun _=>?_
 refine Mg c4 (eZ rfl hh (sc rfl) rfl) fun _=>?_
 refine Mg c4 (qN rfl hh hh) fun _=>?_
 refine My (cE rfl hh c4 hh) fun _=>?_
 refine M1 ?_
 intros
 refine Mt c5 fun _=>?_
 refine Mt c5 fun _=>?_
 refine Mt c5 fun _=>?_
 refine Mt c5 fun _=>?_
 refine Mt c5 fun _=>?_
 refine Mt c5 fun _=>?_
 refine Mt c5 fun _=>?_
 refine Mt c5 fun _=>?_
 refine Mt c5 fun _=>?_
 refine Mt c5 fun _=>?_
 refine Mt c5 fun _=>?_
 refine Mt c5 fun _=>?_
 refine My (dM rfl hh c5 hh) fun _=>?_
 refine Z12 ?_
 revert H;refine bs fun r3 H e3=>?_
 have e3:=Option.some.inj e3;subst e3;have Hr1:=Option.some.inj Hr1;subst Hr1
 cases H
 exact eB rfl (bV rfl) rfl
 exact fk
 kernel_rfl
 revert H;refine bs fun y7 h7 H=>?_
 revert H;refine bs fun y8 h8 H=>?_
 revert H;refine bs fun y9 h9 H=>?_
 apply bO (ods:=[_,_,_,_,_,_,_,_,_,_,_,_,_,_,_,_,_,_,_,_,_,_,_,_,_,_,_,_,_,_,_,_,_,_,_,_,_,_,_,_,_,_,_,_,_,_,_,_,_,_,_]) 51 0 0 bM rfl rfl rfl
 refine ND ?_
 refine M2 ?_
 intros
 refine My (cO rfl hh hh (el rfl) h1) fun _=>?_
 refine M4 ?_
 intros
 refine My (cO rfl hh hh (el rfl) h2) fun _=>?_
 refine M4 ?_
 intros
 refine Mg c3 (bT rfl hh) fun _=>?_
 refine Mg c3 (bT rfl hh) fun _=>?_
 refine Mg c3 (cO rfl hh hh (el rfl) h3) fun _=>?_
 refine Mg c3 (eH (t':=tI) (z:=y3.At) rfl hh (fa rfl) rfl) fun _=>?_
 refine Mg c3 (eZ rfl hh (sc rfl) rfl) fun _=>?_
 refine Mg c3 (bT rfl hh) fun _=>?_
 refine Mg c3 (bT rfl hh) fun _=>?_
 refine Mg c3 (cO rfl hh hh (el rfl) h4) fun _=>?_
 refine Mg c3 (eH (t':=tI) (z:=y4.At) rfl hh (fa rfl) rfl) fun _=>?_
 refine Mg c3 (eZ rfl hh (sc rfl) rfl) fun _=>?_
 refine Mg c3 (qN rfl hh hh) fun _=>?_
 refine My (cE rfl hh c3 hh) fun _=>?_
 refine M1 ?_
 intros
 refine Mg c4 (bT rfl hh) fun _=>?_
 refine Mg c4 (bT rfl hh) fun _=>?_
 refine Mg c4 (cO rfl hh hh (el rfl) h5) fun _=>?_
 refine Mg c4 (eH (t':=tI) (z:=y5.N) rfl hh (fa rfl) rfl) fun _=>?_
 refine Mg c4 (eZ rfl hh (sc rfl) rfl) fun _=>?_
 refine Mg c4 (bT rfl hh) fun _=>?_
 refine Mg c4 (bT rfl hh) fun _=>?_
 refine Mg c4 (cO rfl hh hh (el rfl) h6) fun _=>?_
 refine Mg c4 (eH (t':=tI) (z:=y6.N) rfl hh (fa rfl) rfl) fun _=>?_
 refine Mg c4 (eZ rfl hh (sc rfl) rfl) fun _=>?_
 refine Mg c4 (qN rfl hh hh) fun _=>?_
 refine My (cE rfl hh c4 hh) fun _=>?_
 refine M1 ?_
 intros
 refine Mg c5 (bT rfl hh) fun _=>?_
 refine Mg c5 (bT rfl hh) fun _=>?_
 refine Mg c5 (cO rfl hh hh (el rfl) h7) fun _=>?_
 refine Mg c5 (eH (t':=(tSl aQ)) (z:=y7.Vals) rfl hh (fa rfl) rfl) fun _=>?_
 refine Mg c5 (eZ rfl hh (sc rfl) rfl) fun _=>?_
 refine Mg c5 (bT rfl hh) fun _=>?_
 refine Mg c5 (bT rfl hh) fun _=>?_
 refine Mg c5 (cO rfl hh hh (el rfl) h8) fun _=>?_
 refine Mg c5 (eH (t':=(tSl aQ)) (z:=y8.Vals) rfl hh (fa rfl) rfl) fun _=>?_
 refine Mg c5 (eZ rfl hh (sc rfl) rfl) fun _=>?_
 refine sW (od:=odC [] true (aJ y9) []) (Φ:=aJ y9) rfl (fun _=>rfl) ⟨_,_,rfl,rfl,c5⟩ rfl rfl (has rfl) (aE.cons (has rfl) (aE.cons (has rfl) aE.nil)) rfl (cb rfl) (aFQ fuel y7.Vals y8.Vals y9 h9) (fun _=>?_)
 refine Mg c5 (o_not rfl hh) fun _=>?_
 refine My (cE rfl hh c5 hh) fun _=>?_
 refine Z2 ?_
 revert H;refine cs (fun c6 H=>?_) fun c6 H=>?_
 refine dG hh (not_t c6) ?_
 refine Z5 ?_
 revert H;refine bs fun z1 h10 H=>?_
 refine Yy (fX rfl hh hh h10) ?_
 refine Z2 ?_
 exact bB ((k1,z1)) ⟨H,Nat.lt_succ_self _⟩ (Sc (Sc (Sc aV.nil))) rfl
 refine dH hh (not_f c6) ?_
 refine Z9 ?_
 revert H;refine bs fun r4 H e4=>?_
 have e4:=Option.some.inj e4;subst e4;have Hr1:=Option.some.inj Hr1;subst Hr1
 cases H
 exact eB rfl (bV rfl) rfl
 exact fk
 kernel_rfl
 refine dG hh c2 ?_
 refine Z5 ?_
 exact bB (()) (Option.some.inj H).symm aV.nil rfl
 clear H;intro i hi;subst o1;have H:=Hr1;clear Hr1;try dsimp only at H
 try dsimp only
 refine Z4 ?_
 cases H
 exact eB rfl (bV rfl) rfl
end Go.Proofs.YtjahnkcjbglnoaaGreatDoor

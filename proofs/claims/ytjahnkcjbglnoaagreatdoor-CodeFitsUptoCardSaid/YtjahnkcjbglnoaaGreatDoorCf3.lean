/- Parts of the proof: lemmas, and the steps through the program. -/
import Derived.Test.YtjahnkcjbglnoaaGreatDoorCf2
set_option linter.unusedVariables false
set_option linter.unusedSimpArgs false
set_option maxRecDepth 100000
set_option maxHeartbeats 2000000
namespace Go.Proofs.YtjahnkcjbglnoaaGreatDoor
open Go.SX Go.SW Go.Dt
attribute [local irreducible] Code.wpIn wpListIn Exit.then Exit.inBlock
def qP (y1:AN):Nat->(List Int)->Int->Option (List Int)
| 0,_,_=>none
| k+1,x10,x11=>
 if x11<(y1.AO.length:Int)then
  (idx y1.AO x11).bind fun y2=>
  (eP (x10++[y2.AU])).bind fun z1=>
  (chk (x11+1)).bind fun z2=>
  qP y1 k z1 z2
 else
  some x10
def sO (y1:AN):Nat->(List Int)->Int->Option (List Int)
| 0,_,_=>none
| k+1,x14,x15=>
 if x15<(y1.AP.length:Int)then
  (idx y1.AP x15).bind fun y3=>
  (eP (x14++[y3.AU])).bind fun z3=>
  (chk (x15+1)).bind fun z4=>
  sO y1 k z3 z4
 else
  some x14
def qV (AA:Nat) (a0:AC):Nat->(List Int)->Int->Option (List Int)
| 0,_,_=>none
| k+1,x4,x5=>
 if x5<(a0.AE.length:Int)then
  ((idx a0.AE x5).bind fun y1=>
  (qP y1 AA x4 0).bind fun x7=>
  sO y1 AA x7 0).bind fun x6=>
  (chk (x5+1)).bind fun z5=>
  qV AA a0 k x6 z5
 else
  some x4
def sB (a0:AC):Nat->(List Int)->Int->Option (List Int)
| 0,_,_=>none
| k+1,x19,x20=>
 if x20<(a0.Code.length:Int)then
  ((idx a0.Code x20).bind fun y4=>
  (oM y4.Op).bind fun y5=>
  bif y5 then
   (eP (x19++[y4.B])).bind fun z6=>
   some z6
  else
   some x19).bind fun x21=>
  (chk (x20+1)).bind fun z7=>
  sB a0 k x21 z7
 else
  some x19
def xK (AA:Nat) (a0:AC):Option (List Int):=
 (qV AA a0 AA [a0.AG] 0).bind fun x1=>
 (sB a0 AA x1 0).bind fun x16=>
 some x16
theorem aJr (AA:Nat)  (a0:AC) (r:List Int) (H:xK AA a0=some r):FnS Tryz.prog 117 [fSt lR a0] [] eG (fun v=>[(fun v=>aD v 3 tI r) v]):=by
 unfold xK at H
 refine bS Tryz.func117 rfl Tryz.ntmps117 rfl (fun β=>?_)
 refine Z1 ?_
 refine Tn (cA rfl hh bT) fun b1=>?_
 refine Z5 ?_
 refine Tn (gI (t:=tI) (xs:=[a0.AG]) rfl (et rfl) (cE.cons rfl (has rfl) (cI (aG a1W)) cE.nil) rfl rfl rfl) fun b2=>?_
 generalize (Value.slice (some ⟨b2,0,none⟩) _ _)=v1
 refine rc 0 fun _=>?_
 revert H;refine B2z fun o1 H Hr1=>?_
 refine aQ (ι:=List Int × Value) (fun i=>o1=i.1) (fun i=>[(1,fEq (ptr b1)),(3,fEq i.2)]) (fun i=>[aA b1 25 [fI a0.AF,fSl aB a0.AE,fSl aP a0.Code,fI a0.AG],aD i.2 3 tI i.1]) ?_ ?_
 refine Z7 ?_
 refine aF [1,0] (by decide) ?_
 refine Th (ι:=List Int × Int × Value) (fun i=>qV AA a0 i.1 i.2.1 i.2.2.1=_) (fun i=>[(1,fEq (ptr b1)),(3,fEq i.2.2.2),(16,fSl aB a0.AE),(17,fI (a0.AE.length:Int)),(18,fI i.2.2.1)]) (fun i=>[aA b1 25 [fI a0.AF,fSl aB a0.AE,fSl aP a0.Code,fI a0.AG],aD i.2.2.2 3 tI i.2.1]) (AA,[a0.AG],0,v1) H (fun _ h=>nomatch h) ?_
 clear H;rintro k1 ⟨x4,x5,v4⟩ H;dsimp only at H ⊢;rw [qV]at H
 refine rc 1 fun _=>?_
 refine Z3 ?_
 refine aL ?_
 revert H;refine is (fun c1 H=>?_) fun c1 H=>?_
 revert H;refine B3z fun o2 H Hr2=>?_
 refine aQ (ι:=List Int × Value) (fun i=>o2=i.1) (fun i=>[(1,fEq (ptr b1)),(3,fEq i.2),(16,fSl aB a0.AE),(17,fI (a0.AE.length:Int)),(18,fI x5)]) (fun i=>[aA b1 25 [fI a0.AF,fSl aB a0.AE,fSl aP a0.Code,fI a0.AG],aD i.2 3 tI i.1]) ?_ ?_
 revert H;refine B2z fun y1 h1 H=>?_
 refine Z2 ?_
 refine Tn (cF rfl qN rfl) fun b3=>?_
 refine cM (φs':=[fSl bC y1.AQ,fSl bD y1.AP,fSl bB y1.AO]) a1W rfl rfl (has rfl) (has rfl) (aI (bR) (aI (bR) (aI (bR) bM))) (sz rfl) rfl rfl rfl ?_
 revert H;refine B1z fun o3 H Hr3=>?_
 refine aQ (ι:=List Int × Value) (fun i=>o3=i.1) (fun i=>[(1,fEq (ptr b1)),(3,fEq i.2),(16,fSl aB a0.AE),(17,fI (a0.AE.length:Int)),(18,fI x5),(5,fEq (ptr b3))]) (fun i=>[aA b3 63 [fSl bC y1.AQ,fSl bD y1.AP,fSl bB y1.AO],aA b1 25 [fI a0.AF,fSl aB a0.AE,fSl aP a0.Code,fI a0.AG],aD i.2 3 tI i.1]) ?_ ?_
 refine Z7 ?_
 refine Th (ι:=List Int × Int × Value) (fun i=>qP y1 i.1 i.2.1 i.2.2.1=_) (fun i=>[(1,fEq (ptr b1)),(3,fEq i.2.2.2),(16,fSl aB a0.AE),(17,fI (a0.AE.length:Int)),(18,fI x5),(5,fEq (ptr b3)),(23,fSl bB y1.AO),(24,fI (y1.AO.length:Int)),(25,fI i.2.2.1)]) (fun i=>[aA b3 63 [fSl bC y1.AQ,fSl bD y1.AP,fSl bB y1.AO],aA b1 25 [fI a0.AF,fSl aB a0.AE,fSl aP a0.Code,fI a0.AG],aD i.2.2.2 3 tI i.2.1]) (AA,x4,0,v4) H (fun _ h=>nomatch h) ?_
 clear H;rintro k2 ⟨x10,x11,v8⟩ H;dsimp only at H ⊢;rw [qP]at H
 refine rc 2 fun _=>?_
 refine Z3 ?_
 refine aL ?_
 revert H;refine is (fun c2 H=>?_) fun c2 H=>?_
 refine Z3 ?_
 refine aL ?_
 revert H;refine B2z fun y2 h2 H=>?_
 refine Z2 ?_
 refine Tn (cF rfl mF rfl) fun b4=>?_
 refine cM (φs':=[fI y2.At,fSl tI y2.AZ,fI y2.AU]) a1W rfl rfl (has rfl) (has rfl) (aI (aG a1W) (aI (bR) (aI (aG a1W) bM))) (sz rfl) rfl rfl rfl ?_
 refine Z5 ?_
 refine Tn (gI (t:=tI) (xs:=[y2.AU]) rfl (et rfl) (cE.cons rfl (has rfl) (cI (aG a1W)) cE.nil) rfl rfl rfl) fun b5=>?_
 generalize (Value.slice (some ⟨b5,0,none⟩) _ _)=v9
 refine rc 0 fun _=>?_
 revert H;refine bs fun z1 h3 H=>?_
 refine aO ?_
 refine aW ?_
 refine lP a1W rfl rfl rfl (has rfl) (has rfl) (et rfl) rfl h3 (fun v10=>?_)
 refine rc 0 fun _=>?_
 revert H;refine B5z fun z2 h4 H=>?_
 refine Z3 ?_
 refine aF [2,3,0] (by decide) ?_
 exact Tm ((k2,z1,z2,v10)) ⟨H,ls⟩
 refine Z6 ?_
 exact Tm ((x10,v8)) (ij H)
 rintro⟨x7,v6⟩ hi;subst o3;replace H:=Hr3;clear Hr3;try dsimp only at H ⊢
 refine rc 2 fun _=>?_
 refine Z7 ?_
 refine Th (ι:=List Int × Int × Value) (fun i=>sO y1 i.1 i.2.1 i.2.2.1=_) (fun i=>[(1,fEq (ptr b1)),(3,fEq i.2.2.2),(16,fSl aB a0.AE),(17,fI (a0.AE.length:Int)),(18,fI x5),(36,fSl bD y1.AP),(37,fI (y1.AP.length:Int)),(38,fI i.2.2.1)]) (fun i=>[aA b3 63 [fSl bC y1.AQ,fSl bD y1.AP,fSl bB y1.AO],aA b1 25 [fI a0.AF,fSl aB a0.AE,fSl aP a0.Code,fI a0.AG],aD i.2.2.2 3 tI i.2.1]) (AA,x7,0,v6) H (fun _ h=>nomatch h) ?_
 clear H;rintro k3 ⟨x14,x15,v12⟩ H;dsimp only at H ⊢;rw [sO]at H
 refine rc 2 fun _=>?_
 refine Z3 ?_
 refine aL ?_
 revert H;refine is (fun c3 H=>?_) fun c3 H=>?_
 refine Z3 ?_
 refine aL ?_
 revert H;refine B2z fun y3 h5 H=>?_
 refine Z2 ?_
 refine Tn (cF rfl qJ rfl) fun b6=>?_
 refine cM (φs':=[fI y3.In,fI y3.AU]) a1W rfl rfl (has rfl) (has rfl) (aI (aG a1W) (aI (aG a1W) bM)) (sz rfl) rfl rfl rfl ?_
 refine Z5 ?_
 refine Tn (gI (t:=tI) (xs:=[y3.AU]) rfl (et rfl) (cE.cons rfl (has rfl) (cI (aG a1W)) cE.nil) rfl rfl rfl) fun b7=>?_
 generalize (Value.slice (some ⟨b7,0,none⟩) _ _)=v13
 refine rc 0 fun _=>?_
 revert H;refine bs fun z3 h6 H=>?_
 refine aO ?_
 refine aW ?_
 refine lP a1W rfl rfl rfl (has rfl) (has rfl) (et rfl) rfl h6 (fun v14=>?_)
 refine rc 0 fun _=>?_
 revert H;refine B5z fun z4 h7 H=>?_
 refine Z3 ?_
 refine aF [2,3,0] (by decide) ?_
 exact Tm ((k3,z3,z4,v14)) ⟨H,ls⟩
 refine Z7 ?_
 refine aF [1,2] (by decide) ?_
 exact Tm ((x14,v12)) (ij H)
 rintro⟨x6,v5⟩ hi;subst o2;replace H:=Hr2;clear Hr2;try dsimp only at H ⊢
 refine rc 1 fun _=>?_
 revert H;refine B1z fun z5 h8 H=>?_
 refine Z3 ?_
 exact Tm ((k1,x6,z5,v5)) ⟨H,ls⟩
 refine Z6 ?_
 exact Tm ((x4,v4)) (ij H)
 rintro⟨x1,v2⟩ hi;subst o1;replace H:=Hr1;clear Hr1;try dsimp only at H ⊢
 refine rc 1 fun _=>?_
 revert H;refine bs fun o4 H Hr4=>?_
 refine aQ (ι:=List Int × Value) (fun i=>o4=i.1) (fun i=>[(3,fEq i.2)]) (fun i=>[aA b1 25 [fI a0.AF,fSl aB a0.AE,fSl aP a0.Code,fI a0.AG],aD i.2 3 tI i.1]) ?_ ?_
 refine Z7 ?_
 refine Th (ι:=List Int × Int × Value) (fun i=>sB a0 i.1 i.2.1 i.2.2.1=_) (fun i=>[(3,fEq i.2.2.2),(50,fSl aP a0.Code),(51,fI (a0.Code.length:Int)),(52,fI i.2.2.1)]) (fun i=>[aA b1 25 [fI a0.AF,fSl aB a0.AE,fSl aP a0.Code,fI a0.AG],aD i.2.2.2 3 tI i.2.1]) (AA,x1,0,v2) H (fun _ h=>nomatch h) ?_
 clear H;rintro k4 ⟨x19,x20,v17⟩ H;dsimp only at H ⊢;rw [sB]at H
 refine rc 1 fun _=>?_
 refine Z3 ?_
 refine aL ?_
 revert H;refine is (fun c4 H=>?_) fun c4 H=>?_
 revert H;refine B3z fun o5 H Hr5=>?_
 refine aQ (ι:=List Int × Value) (fun i=>o5=i.1) (fun i=>[(50,fSl aP a0.Code),(51,fI (a0.Code.length:Int)),(52,fI x20),(3,fEq i.2)]) (fun i=>[aA b1 25 [fI a0.AF,fSl aB a0.AE,fSl aP a0.Code,fI a0.AG],aD i.2 3 tI i.1]) ?_ ?_
 revert H;refine B2z fun y4 h9 H=>?_
 refine Z2 ?_
 refine Tn (cF rfl aCo rfl) fun b8=>?_
 refine cM (φs':=[fI y4.Op,fI y4.A,fI y4.B]) a1W rfl rfl (has rfl) (has rfl) (aI (aG a1W) (aI (aG a1W) (aI (aG a1W) bM))) (sz rfl) rfl rfl rfl ?_
 revert H;refine B4z fun y5 h10 H=>?_
 refine Tc (aE5 _ _ h10) ?_
 refine Z1 ?_
 revert H;refine cs (fun c5 H=>?_) fun c5 H=>?_
 refine Z5 ?_
 refine Tn (gI (t:=tI) (xs:=[y4.B]) rfl (et rfl) (cE.cons rfl (has rfl) (cI (aG a1W)) cE.nil) rfl rfl rfl) fun b9=>?_
 generalize (Value.slice (some ⟨b9,0,none⟩) _ _)=v19
 refine rc 0 fun _=>?_
 revert H;refine bs fun z6 h11 H=>?_
 refine bA ?_
 refine aW ?_
 refine lP a1W rfl rfl rfl (has rfl) (has rfl) (et rfl) rfl h11 (fun v20=>?_)
 refine rc 0 fun _=>?_
 refine Z4 ?_
 refine aF [2,0] (by decide) ?_
 exact Tm ((z6,v20)) (ij H)
 refine Z4 ?_
 refine aF [1,2] (by decide) ?_
 exact Tm ((x19,v17)) (ij H)
 rintro⟨x21,v18⟩ hi;subst o5;replace H:=Hr5;clear Hr5;try dsimp only at H ⊢
 refine rc 1 fun _=>?_
 revert H;refine B1z fun z7 h12 H=>?_
 refine Z3 ?_
 exact Tm ((k4,x21,z7,v18)) ⟨H,ls⟩
 refine Z6 ?_
 exact Tm ((x19,v17)) (ij H)
 rintro⟨x16,v15⟩ hi;subst o4;replace H:=Hr4;clear Hr4;try dsimp only at H ⊢
 refine rc 1 fun _=>?_
 refine Z5 ?_
 cases H
 refine aF [1] (by decide) ?_
 exact aDb rfl (dS rfl) (fun _ _ _=>trivial) rfl
def pB (a0:AV):Nat->Int->Option (Int)
| 0,_=>none
| k+1,x13=>
 if x13<(a0.AC.Code.length:Int)then
  (idx a0.AC.Code x13).bind fun y9=>
  if y9.Op≠16 then
   (chk (x13+1)).bind fun z1=>
   pB a0 k z1
  else
   some x13
 else
  some x13
def qS (x11:Int):Nat->Int->(List Int)->Option (List Int)
| 0,_,_=>none
| k+1,x17,x18=>
 if x17<=x11 then
  (idx x18 x17).bind fun y11=>
  (chk (x17+1)).bind fun z2=>
  qS x11 k z2 (x18.set x17.toNat x11)
 else
  some x18
def nO (AA:Nat) (a0:AV) (y2:List Int):Nat->Int->Int->(List Int)->Option ((Int × List Int) ⊕ (AV ⊕ Value))
| 0,_,_,_=>none
| k+1,x6,x7,x8=>
 if x7<(y2.length:Int)then
  ((idx y2 x7).bind fun y7=>
  (cC (decide (y7=x6))).bind fun y8=>
  match y8 with
  | Sum.inr pv2=>((some (Sum.inr pv2)).bind fun r=>some (Sum.inr r)).bind fun r=>some (Sum.inr r)
  | Sum.inl y8=>
  (pB a0 AA x6).bind fun x11=>
  (cC (decide (x11<(a0.AC.Code.length:Int)))).bind fun y10=>
  match y10 with
  | Sum.inr pv3=>((some (Sum.inr pv3)).bind fun r=>some (Sum.inr r)).bind fun r=>some (Sum.inr r)
  | Sum.inl y10=>
  (qS x11 AA y7 x8).bind fun x14=>
  (chk (x11+1)).bind fun z3=>
  some (Sum.inl (z3,x14))).bind fun o=>match o with
  | Sum.inr r=>some r
  | Sum.inl (x9,x10)=>
  (chk (x7+1)).bind fun z4=>
  nO AA a0 y2 k x9 z4 x10
 else
  some (Sum.inl (x6,x8))
def mV (AA:Nat) (a0:AV):Option (AV ⊕ Value):=
 (xK AA (⟨a0.AC.AF,a0.AC.AE,a0.AC.Code,a0.AC.AG⟩:AC)).bind fun y1=>
 (aCh y1).bind fun y2=>
 (nQ y2).bind fun y3=>
 (aGv y3).bind fun y4=>
 (cC (decide ((y4.length:Int)=(y2.length:Int)))).bind fun y5=>
 match y5 with
 | Sum.inr pv1=>some (Sum.inr pv1)
 | Sum.inl y5=>
 (mk 0 (a0.AC.Code.length:Int)).bind fun y6=>
 (nO AA a0 y2 AA 0 0 y6).bind fun o=>match o with
 | Sum.inr r=>some r
 | Sum.inl (x1,x2)=>
 (cC (decide (x1=(a0.AC.Code.length:Int)))).bind fun y12=>
 match y12 with
 | Sum.inr pv4=>some (Sum.inr pv4)
 | Sum.inl y12=>
 some (Sum.inl (⟨(⟨a0.AC.AF,a0.AC.AE,a0.AC.Code,a0.AC.AG⟩:AC),y2,x2,a0.AR,a0.Ad⟩:AV))
theorem aGB (AA:Nat) (p0:Nat) (a0:AV) (r:AV ⊕ Value) (H:mV AA a0=some r):FnE Tryz.prog 73 [fEq (.pointer (some ⟨p0,0,none⟩))] [dT p0 a0] r (fun r=>dA []) (fun r=>[dT p0 r]):=by
 unfold mV at H
 refine gO Tryz.func73 rfl Tryz.ntmps73 rfl (fun β=>?_)
 refine dW (fun v1 v2 v3=>?_)
 refine aM ?_
 refine bP (fun b1 h1=>?_);subst h1
 refine rc 2 fun _=>?_
 refine rc 3 fun _=>?_
 refine B5 H fun y1 h2 H=>?_
 refine aGT a1W rfl rfl rfl (has rfl) (aS.cons (has rfl) aS.nil) rfl (cb rfl) (aJr AA a0.AC y1 h2) (Δi:=[]) rfl (fun v4=>?_)
 dsimp only [List.append,_root_.List.cons_append,_root_.List.nil_append]
 refine rc 0 fun _=>?_
 refine B4 H fun y2 h3 H=>?_
 refine Tc (aFi _ _ _ h3) ?_
 refine Z3 ?_
 refine dI (φ:=fSl tI y2) (v:=v4) [11,2,12,14] eT fz ?_
 refine dH ?_
 refine bz H fun y3 h4 H=>?_
 refine aGT a1W rfl rfl rfl (has rfl) (aS.cons (has rfl) aS.nil) rfl (cb rfl) (aHk y2 y3 h4) (Δi:=[]) rfl (fun v5=>?_)
 dsimp only [List.append,_root_.List.cons_append,_root_.List.nil_append]
 refine rc 0 fun _=>?_
 refine bz H fun y4 h5 H=>?_
 refine Tc (aIj _ _ _ h5) ?_
 refine B4 H fun y5 h6 H=>?_
 rcases y5 with y5 | pv1 <;> dsimp only at H
 refine Tc (aY _ _ h6).s ?_
 refine B9 H fun y6 h7 H=>?_
 refine Tn (oY (t:=tI) (z:=0) rfl hh (et rfl) rfl sM rfl h7) fun b2=>?_
 generalize (Value.slice (some ⟨b2,0,none⟩) _ _)=v6
 refine rc 0 fun hc_v6=>?_
 refine Z2 ?_
 refine aM ?_
 refine cQ (φs':=[fI a0.AC.AF,fSl aB a0.AC.AE,fSl aP a0.AC.Code,fI a0.AC.AG,fSl tI a0.Ae,fEq v6,fEq (.map (some b1)),fEq v3]) a1W rfl rfl (has rfl) (has rfl) (aG hc_v6) (sz rfl) rfl rfl ?_
 revert H;refine B4z fun o1 H Hr1=>?_
 refine aQ (fun i=>o1=Sum.inl i) (fun i=>[(0,fEq (ptr p0)),(2,fSl tI y2),(3,fI i.1)]) (fun i=>[aA p0 90 [fI a0.AC.AF,fSl aB a0.AC.AE,fSl aP a0.AC.Code,fI a0.AC.AG,fSl tI a0.Ae,fEq v6,fEq (.map (some b1)),fEq v3],bE aZ (fun y=>fSt bZ y) b1 a0.AR,aD v6 3 tI i.2,aD v3 3 tI a0.Ad]) ?_ ?_
 refine Z6 ?_
 refine aF [0,2,1,4] (by decide) ?_
 refine Th (ι:=Int × Int × List Int) (fun i=>nO AA a0 y2 i.1 i.2.1 i.2.2.1 i.2.2.2=_) (fun i=>[(0,fEq (ptr p0)),(2,fSl tI y2),(3,fI i.2.1),(32,fSl tI y2),(33,fI (y2.length:Int)),(34,fI i.2.2.1)]) (fun i=>[aA p0 90 [fI a0.AC.AF,fSl aB a0.AC.AE,fSl aP a0.AC.Code,fI a0.AC.AG,fSl tI a0.Ae,fEq v6,fEq (.map (some b1)),fEq v3],bE aZ (fun y=>fSt bZ y) b1 a0.AR,aD v6 3 tI i.2.2.2,aD v3 3 tI a0.Ad]) (AA,0,0,y6) H (fun _ h=>nomatch h) ?_
 clear H;rintro k1 ⟨x6,x7,x8⟩ H;dsimp only at H ⊢;rw [nO]at H
 refine Z3 ?_
 refine aL ?_
 revert H;refine is (fun c1 H=>?_) fun c1 H=>?_
 revert H;refine B3z fun o2 H Hr2=>?_
 refine aQ (fun i=>o2=Sum.inl i) (fun i=>[(0,fEq (ptr p0)),(2,fSl tI y2),(3,fI i.1),(32,fSl tI y2),(33,fI (y2.length:Int)),(34,fI x7)]) (fun i=>[aA p0 90 [fI a0.AC.AF,fSl aB a0.AC.AE,fSl aP a0.AC.Code,fI a0.AC.AG,fSl tI a0.Ae,fEq v6,fEq (.map (some b1)),fEq v3],bE aZ (fun y=>fSt bZ y) b1 a0.AR,aD v6 3 tI i.2,aD v3 3 tI a0.Ad]) ?_ ?_
 revert H;refine B2z fun y7 h8 H=>?_
 revert H;refine B8z fun y8 h9 H=>?_
 rcases y8 with y8 | pv2 <;> dsimp only at H
 refine Tc (aY _ _ h9).s ?_
 revert H;refine B1z fun o3 H Hr3=>?_
 refine aQ (fun i=>o3=i) (fun i=>[(0,fEq (ptr p0)),(2,fSl tI y2),(3,fI i),(32,fSl tI y2),(33,fI (y2.length:Int)),(34,fI x7),(5,fI y7)]) (fun i=>[aA p0 90 [fI a0.AC.AF,fSl aB a0.AC.AE,fSl aP a0.AC.Code,fI a0.AC.AG,fSl tI a0.Ae,fEq v6,fEq (.map (some b1)),fEq v3],bE aZ (fun y=>fSt bZ y) b1 a0.AR,aD v6 3 tI x8,aD v3 3 tI a0.Ad]) ?_ ?_
 refine Z1 ?_
 refine Th (ι:=Int) (fun i=>pB a0 i.1 i.2=_) (fun i=>[(0,fEq (ptr p0)),(2,fSl tI y2),(3,fI i.2),(32,fSl tI y2),(33,fI (y2.length:Int)),(34,fI x7),(5,fI y7)]) (fun i=>[aA p0 90 [fI a0.AC.AF,fSl aB a0.AC.AE,fSl aP a0.AC.Code,fI a0.AC.AG,fSl tI a0.Ae,fEq v6,fEq (.map (some b1)),fEq v3],bE aZ (fun y=>fSt bZ y) b1 a0.AR,aD v6 3 tI x8,aD v3 3 tI a0.Ad]) (AA,x6) H (fun _ h=>nomatch h) ?_
 clear H;rintro k2 x13 H;dsimp only at H ⊢;rw [pB]at H
 refine aL ?_
 revert H;refine I10z (fun c2 H=>?_) fun c2 H=>?_
 revert H;refine B6z fun y9 h10 H=>?_
 revert H;refine I6z (fun c3 H=>?_) fun c3 H=>?_
 revert H;refine B6z fun z1 h11 H=>?_
 refine Z5 ?_
 exact Tm ((k2,z1)) ⟨H,ls⟩
 refine Z6 ?_
 exact Tm (x13) (ij H)
 refine Z12 ?_
 refine Z6 ?_
 exact Tm (x13) (ij H)
 rintro x11 hi;subst o3;replace H:=Hr3;clear Hr3;try dsimp only at H ⊢
 revert H;refine B9z fun y10 h12 H=>?_
 rcases y10 with y10 | pv3 <;> dsimp only at H
 refine Tc (aY _ _ h12).s ?_
 revert H;refine B1z fun o4 H Hr4=>?_
 refine aQ (fun i=>o4=i) (fun i=>[(0,fEq (ptr p0)),(2,fSl tI y2),(3,fI x11),(32,fSl tI y2),(33,fI (y2.length:Int)),(34,fI x7)]) (fun i=>[aA p0 90 [fI a0.AC.AF,fSl aB a0.AC.AE,fSl aP a0.AC.Code,fI a0.AC.AG,fSl tI a0.Ae,fEq v6,fEq (.map (some b1)),fEq v3],bE aZ (fun y=>fSt bZ y) b1 a0.AR,aD v6 3 tI i,aD v3 3 tI a0.Ad]) ?_ ?_
 refine Z5 ?_
 refine Th (ι:=Int × List Int) (fun i=>qS x11 i.1 i.2.1 i.2.2=_) (fun i=>[(0,fEq (ptr p0)),(2,fSl tI y2),(3,fI x11),(32,fSl tI y2),(33,fI (y2.length:Int)),(34,fI x7),(6,fI i.2.1)]) (fun i=>[aA p0 90 [fI a0.AC.AF,fSl aB a0.AC.AE,fSl aP a0.AC.Code,fI a0.AC.AG,fSl tI a0.Ae,fEq v6,fEq (.map (some b1)),fEq v3],bE aZ (fun y=>fSt bZ y) b1 a0.AR,aD v6 3 tI i.2.2,aD v3 3 tI a0.Ad]) (AA,y7,x8) H (fun _ h=>nomatch h) ?_
 clear H;rintro k3 ⟨x17,x18⟩ H;dsimp only at H ⊢;rw [qS]at H
 refine aL ?_
 revert H;refine I5z (fun c4 H=>?_) fun c4 H=>?_
 refine Z3 ?_
 refine aL ?_
 revert H;refine B8z fun y11 h13 H=>?_
 refine Z1 ?_
 refine aM ?_
 refine aBl (z':=x11) a1W rfl rfl rfl (has rfl) (has rfl) (aG a1W) (sz rfl) (idx_get h13) rfl rfl ?_
 revert H;refine B5z fun z2 h14 H=>?_
 refine Z3 ?_
 refine aF [1,2,0,3] (by decide) ?_
 exact Tm ((k3,z2,x18.set x17.toNat x11)) ⟨H,ls⟩
 refine Z6 ?_
 exact Tm (x18) (ij H)
 rintro x14 hi;subst o4;replace H:=Hr4;clear Hr4;try dsimp only at H ⊢
 revert H;refine B2z fun z3 h15 H=>?_
 refine Z5 ?_
 exact Tm ((z3,x14)) (ij H)
 refine Tp (aY _ _ h12).pan ?_
 revert H;refine B3z fun r1 H e1=>?_
 cases e1;cases Hr2
 revert H;refine B3z fun r2 H e2=>?_
 cases e2;cases Hr1
 cases H
 exact aR
 refine Tp (aY _ _ h9).pan ?_
 revert H;refine B3z fun r3 H e3=>?_
 cases e3;cases Hr2
 revert H;refine B3z fun r4 H e4=>?_
 cases e4;cases Hr1
 cases H
 exact aR
 rintro⟨x9,x10⟩ hi;subst o2;replace H:=Hr2;clear Hr2;try dsimp only at H ⊢
 revert H;refine B1z fun z4 h16 H=>?_
 refine Z3 ?_
 exact Tm ((k1,x9,z4,x10)) ⟨H,ls⟩
 refine Z6 ?_
 exact Tm ((x6,x8)) (ij H)
 rintro⟨x1,x2⟩ hi;subst o1;replace H:=Hr1;clear Hr1;try dsimp only at H ⊢
 refine B9 H fun y12 h17 H=>?_
 rcases y12 with y12 | pv4 <;> dsimp only at H
 refine Tc (aY _ _ h17).s ?_
 refine Z6 ?_
 refine cQ (φs':=[fI a0.AC.AF,fSl aB a0.AC.AE,fSl aP a0.AC.Code,fI a0.AC.AG,fSl tI y2,fEq v6,fEq (.map (some b1)),fEq v3]) a1W rfl rfl (has rfl) (has rfl) (bR) (sz rfl) rfl rfl ?_
 refine Z1 ?_
 refine aW ?_
 refine bH ?_
 refine bA ?_
 refine aW ?_
 refine bA ?_
 refine bA ?_
 refine dP ?_
 cases H
 refine fS ?_
 exact cK (.inr rfl) rfl rfl
 refine Tp (aY _ _ h17).pan ?_
 refine Z1 ?_
 cases H
 exact aR
 refine Tp (aY _ _ h6).pan ?_
 refine Z1 ?_
 cases H
 exact aR
def lO (a0:AV) (a1:Int) (a2:AM):Option (AV ⊕ Value):=
 bif (a0.AR.get a1).isSome then
  (cC (decide ((((a0.AR.get a1).getD (⟨0,0⟩:AM)).AY)=a2.AY) && decide ((((a0.AR.get a1).getD (⟨0,0⟩:AM)).Ab)=a2.Ab))).bind fun y1=>
  match y1 with
  | Sum.inr pv1=>some (Sum.inr pv1)
  | Sum.inl y1=>
  some (Sum.inl (⟨(⟨a0.AC.AF,a0.AC.AE,a0.AC.Code,a0.AC.AG⟩:AC),a0.Ae,a0.last,a0.AR,a0.Ad⟩:AV))
 else
  (eP (a0.Ad++[a1])).bind fun z1=>
  some (Sum.inl (⟨(⟨a0.AC.AF,a0.AC.AE,a0.AC.Code,a0.AC.AG⟩:AC),a0.Ae,a0.last,aE.upd a0.AR a1 (⟨a2.AY,a2.Ab⟩:AM),z1⟩:AV))
theorem jG (p0:Nat) (a0:AV) (a1:Int) (a2:AM) (r:AV ⊕ Value) (H:lO a0 a1 a2=some r):FnE Tryz.prog 74 [fEq (.pointer (some ⟨p0,0,none⟩)),fI a1,fSt bZ a2] [dT p0 a0] r (fun r=>dA []) (fun r=>[dT p0 r]):=by
 unfold lO at H
 refine gO Tryz.func74 rfl Tryz.ntmps74 rfl (fun β=>?_)
 refine dW (fun v1 v2 v3=>?_)
 refine aM ?_
 refine bP (fun b1 h1=>?_);subst h1
 refine rc 2 fun _=>?_
 refine rc 3 fun _=>?_
 refine Z1 ?_
 refine Tn (cA rfl hh bT) fun b2=>?_
 refine Z1 ?_
 refine aL ?_
 refine Z6 ?_
 refine Yo 1 rfl (aJd (zα:=(⟨0,0⟩:AM)) (k:=a1) rfl hh hh rfl aAC (mR [(.int .i64 0),(.int .i64 0)])) ?_
 refine Z3 ?_
 refine Tn (cF rfl aBG rfl) fun b3=>?_
 refine cM (φs':=[fI (((a0.AR.get a1).getD (⟨0,0⟩:AM)).AY),fI (((a0.AR.get a1).getD (⟨0,0⟩:AM)).Ab)]) a1W rfl rfl (has rfl) (has rfl) (aI (aG a1W) (aI (aG a1W) bM)) (sz rfl) rfl rfl rfl ?_
 refine Z5 ?_
 refine cz H (fun c1 H=>?_) fun c1 H=>?_
 refine Z4 ?_
 refine Yy (o_eqSt2 (t:=bZ) (u:=(⟨((a0.AR.get a1).getD (⟨0,0⟩:AM)).AY,((a0.AR.get a1).getD (⟨0,0⟩:AM)).Ab⟩:AM)) (v:=a2) rfl hh hh rfl rfl aIe) ?_
 refine bz H fun y1 h2 H=>?_
 rcases y1 with y1 | pv1 <;> dsimp only at H
 refine Tc (aY _ _ h2).s ?_
 refine Z2 ?_
 refine aM ?_
 refine bH ?_
 refine gD ?_
 refine aW ?_
 refine gD ?_
 refine gD ?_
 refine dP ?_
 cases H
 refine fS ?_
 refine aF [0] (by decide) ?_
 exact cK (.inl rfl) rfl rfl
 refine Tp (aY _ _ h2).pan ?_
 refine Z2 ?_
 cases H
 exact aR
 refine Z3 ?_
 refine aL ?_
 apply bG (ods:=[_,_,_,_,_,_]) 6 0 6 bF rfl rfl rfl
 refine ND ?_
 refine M6 ?_
 intros
 refine Z1 ?_
 refine aM ?_
 refine iM (k:=a1) (y:=a2) a1W (.inl rfl) rfl (has rfl) (has rfl) rfl (has rfl) rfl aAC ?_
 refine Z8 ?_
 refine Tn (gI (t:=tI) (xs:=[a1]) rfl (et rfl) (cE.cons rfl (has rfl) (cI (aG a1W)) cE.nil) rfl rfl rfl) fun b4=>?_
 generalize (Value.slice (some ⟨b4,0,none⟩) _ _)=v4
 refine rc 0 fun _=>?_
 refine bz H fun z1 h3 H=>?_
 refine iQ ?_
 refine aW ?_
 refine lP a1W rfl rfl rfl (has rfl) (has rfl) (et rfl) rfl h3 (fun v5=>?_)
 refine rc 0 fun hc_v5=>?_
 refine Z2 ?_
 refine aO ?_
 refine cQ (φs':=[fI a0.AC.AF,fSl aB a0.AC.AE,fSl aP a0.AC.Code,fI a0.AC.AG,fSl tI a0.Ae,fEq v1,fEq (.map (some b1)),fEq v5]) a1W rfl rfl (has rfl) (has rfl) (aG hc_v5) (sz rfl) rfl rfl ?_
 refine Z1 ?_
 refine aM ?_
 refine bH ?_
 refine aM ?_
 refine aW ?_
 refine gD ?_
 refine bA ?_
 refine dP ?_
 cases H
 refine fS ?_
 refine aF [0] (by decide) ?_
 exact cK (.inr rfl) rfl rfl
 exact fk
 kernel_rfl
def nB (a0:AM) (a1:Int) (a2:Int):Option (AM ⊕ Value):=
 (cC (decide (a1<=a0.AY))).bind fun y1=>
 match y1 with
 | Sum.inr pv1=>some (Sum.inr pv1)
 | Sum.inl y1=>
 (chk (a0.AY - a1)).bind fun z1=>
 (chk (z1+a2)).bind fun z2=>
 some (Sum.inl (⟨z2,a0.Ab⟩:AM))
theorem mN  (a0:AM) (a1:Int) (a2:Int) (r:AM ⊕ Value) (H:nB a0 a1 a2=some r):FnE Tryz.prog 121 [fSt bZ a0,fI a1,fI a2] [] r (fun r=>fSt bZ r) (fun r=>[]):=by
 unfold nB at H
 refine gO Tryz.func121 rfl Tryz.ntmps121 rfl (fun β=>?_)
 refine Z1 ?_
 refine Tn (cA rfl hh bT) fun b1=>?_
 refine Tn (cF rfl aBG rfl) fun b2=>?_
 refine B6 H fun y1 h1 H=>?_
 rcases y1 with y1 | pv1 <;> dsimp only at H
 refine Tc (aY _ _ h1).s ?_
 refine B5 H fun z1 h2 H=>?_
 refine B2 H fun z2 h3 H=>?_
 refine Z3 ?_
 refine Yy (fK (ψs:=[fI z2,fI a0.Ab]) rfl zJ rfl (bL.cons (has rfl) (cI (aG a1W)) (bL.cons (has rfl) (cI (aG a1W)) bL.nil)) rfl) ?_
 refine cM (φs':=[fI z2,fI a0.Ab]) a1W rfl rfl (has rfl) (has rfl) (aI (aG a1W) (aI (aG a1W) bM)) (sz rfl) rfl rfl rfl ?_
 refine Z2 ?_
 cases H
 refine fS ?_
 refine aF [0] (by decide) ?_
 exact T_outCS rfl (ag rfl) rfl (dS rfl) Ent.rfl rfl
 refine Tp (aY _ _ h1).pan ?_
 refine Z1 ?_
 cases H
 exact aR
def rF (a1:AN) (a2:Int):Nat->Int->Int->(List AN)->(List AI)->Int->(List Int)->(List Int)->(aE Int AM)->(List Int)->Option ((Int × List AN × List AI × Int × List Int × List Int × aE Int AM × List Int) ⊕ (AV ⊕ Value))
| 0,_,_,_,_,_,_,_,_,_=>none
| k+1,x18,x19,x20,x21,x22,x23,x24,x25,x26=>
 if x18<(a1.AP.length:Int)then
  (idx a1.AP x18).bind fun y1=>
  (lO (⟨(⟨x19,x20,x21,x22⟩:AC),x23,x24,x25,x26⟩:AV) y1.AU (⟨0,a2⟩:AM)).bind fun y2=>
  match y2 with
  | Sum.inr pv1=>(some (Sum.inr pv1)).bind fun r=>some (Sum.inr r)
  | Sum.inl y2=>
  (chk (x18+1)).bind fun z1=>
  rF a1 a2 k z1 y2.AC.AF y2.AC.AE y2.AC.Code y2.AC.AG y2.Ae y2.last y2.AR y2.Ad
 else
  some (Sum.inl (x19,x20,x21,x22,x23,x24,x25,x26))
def sH (a1:AN) (y3:Al):Nat->Int->Int->Option (Int)
| 0,_,_=>none
| k+1,x56,x57=>
 if x57<(y3.AZ.length:Int)then
  (idx y3.AZ x57).bind fun y4=>
  (idx a1.AQ y4).bind fun y5=>
  (chk (x56+y5.Au)).bind fun z2=>
  (chk (x57+1)).bind fun z3=>
  sH a1 y3 k z2 z3
 else
  some x56
def qR (AA:Nat) (a1:AN) (a2:Int):Nat->Int->Int->(List AN)->(List AI)->Int->(List Int)->(List Int)->(aE Int AM)->(List Int)->Option (AV ⊕ Value)
| 0,_,_,_,_,_,_,_,_,_=>none
| k+1,x36,x37,x38,x39,x40,x41,x42,x43,x44=>
 if x36<(a1.AO.length:Int)then
  ((idx a1.AO x36).bind fun y3=>
  (sH a1 y3 AA 0 0).bind fun x53=>
  (chk (a2+x53)).bind fun z4=>
  (lO (⟨(⟨x37,x38,x39,x40⟩:AC),x41,x42,x43,x44⟩:AV) y3.AU (⟨0,z4⟩:AM)).bind fun y6=>
  match y6 with
  | Sum.inr pv2=>(some (Sum.inr pv2)).bind fun r=>some (Sum.inr r)
  | Sum.inl y6=>
  some (Sum.inl (y6.AC.AF,y6.AC.AE,y6.AC.Code,y6.AC.AG,y6.Ae,y6.last,y6.AR,y6.Ad))).bind fun o=>match o with
  | Sum.inr r=>some r
  | Sum.inl (x45,x46,x47,x48,x49,x50,x51,x52)=>
  (chk (x36+1)).bind fun z5=>
  qR AA a1 a2 k z5 x45 x46 x47 x48 x49 x50 x51 x52
 else
  some (Sum.inl (⟨(⟨x37,x38,x39,x40⟩:AC),x41,x42,x43,x44⟩:AV))
def zB (AA:Nat) (a0:AV) (a1:AN) (a2:Int):Option (AV ⊕ Value):=
 (rF a1 a2 AA 0 a0.AC.AF a0.AC.AE a0.AC.Code a0.AC.AG a0.Ae a0.last a0.AR a0.Ad).bind fun o=>match o with
 | Sum.inr r=>some r
 | Sum.inl (x1,x2,x3,x4,x5,x6,x7,x8)=>
 qR AA a1 a2 AA 0 x1 x2 x3 x4 x5 x6 x7 x8
theorem aDG (AA:Nat) (p0:Nat) (a0:AV) (a1:AN) (a2:Int) (r:AV ⊕ Value) (H:zB AA a0 a1 a2=some r):FnE Tryz.prog 122 [fEq (.pointer (some ⟨p0,0,none⟩)),fSt aB a1,fI a2] [dT p0 a0] r (fun r=>dA []) (fun r=>[dT p0 r]):=by
 unfold zB at H
 refine gO Tryz.func122 rfl Tryz.ntmps122 rfl (fun β=>?_)
 refine dW (fun v1 v2 v3=>?_)
 refine aM ?_
 refine bP (fun b1 h1=>?_);subst h1
 refine rc 2 fun _=>?_
 refine rc 3 fun _=>?_
 refine Z1 ?_
 refine Tn (cA rfl hh bT) fun b2=>?_
 revert H;refine B1z fun o1 H Hr1=>?_
 refine aQ (ι:=Int × List AN × List AI × Int × List Int × List Int × aE Int AM × List Int × Value × Nat × Value) (fun i=>o1=Sum.inl (i.1,i.2.1,i.2.2.1,i.2.2.2.1,i.2.2.2.2.1,i.2.2.2.2.2.1,i.2.2.2.2.2.2.1,i.2.2.2.2.2.2.2.1)) (fun i=>[(0,fEq (ptr p0)),(2,fI a2),(4,fEq (ptr b2))]) (fun i=>[aA b2 63 [fSl bC a1.AQ,fSl bD a1.AP,fSl bB a1.AO],aA p0 90 [fI i.1,fSl aB i.2.1,fSl aP i.2.2.1,fI i.2.2.2.1,fSl tI i.2.2.2.2.1,fEq i.2.2.2.2.2.2.2.2.1,fEq (.map (some i.2.2.2.2.2.2.2.2.2.1)),fEq i.2.2.2.2.2.2.2.2.2.2],bE aZ (fun y=>fSt bZ y) i.2.2.2.2.2.2.2.2.2.1 i.2.2.2.2.2.2.1,aD i.2.2.2.2.2.2.2.2.1 3 tI i.2.2.2.2.2.1,aD i.2.2.2.2.2.2.2.2.2.2 3 tI i.2.2.2.2.2.2.2.1]) ?_ ?_
 refine Z7 ?_
 refine aF [0,2,1,3,4] (by decide) ?_
 refine Th (ι:=Int × Int × List AN × List AI × Int × List Int × List Int × aE Int AM × List Int × Value × Nat × Value) (fun i=>rF a1 a2 i.1 i.2.1 i.2.2.1 i.2.2.2.1 i.2.2.2.2.1 i.2.2.2.2.2.1 i.2.2.2.2.2.2.1 i.2.2.2.2.2.2.2.1 i.2.2.2.2.2.2.2.2.1 i.2.2.2.2.2.2.2.2.2.1=_) (fun i=>[(0,fEq (ptr p0)),(2,fI a2),(4,fEq (ptr b2)),(14,fSl bD a1.AP),(15,fI (a1.AP.length:Int)),(16,fI i.2.1)]) (fun i=>[aA b2 63 [fSl bC a1.AQ,fSl bD a1.AP,fSl bB a1.AO],aA p0 90 [fI i.2.2.1,fSl aB i.2.2.2.1,fSl aP i.2.2.2.2.1,fI i.2.2.2.2.2.1,fSl tI i.2.2.2.2.2.2.1,fEq i.2.2.2.2.2.2.2.2.2.2.1,fEq (.map (some i.2.2.2.2.2.2.2.2.2.2.2.1)),fEq i.2.2.2.2.2.2.2.2.2.2.2.2],bE aZ (fun y=>fSt bZ y) i.2.2.2.2.2.2.2.2.2.2.2.1 i.2.2.2.2.2.2.2.2.1,aD i.2.2.2.2.2.2.2.2.2.2.1 3 tI i.2.2.2.2.2.2.2.1,aD i.2.2.2.2.2.2.2.2.2.2.2.2 3 tI i.2.2.2.2.2.2.2.2.2.1]) (AA,0,a0.AC.AF,a0.AC.AE,a0.AC.Code,a0.AC.AG,a0.Ae,a0.last,a0.AR,a0.Ad,v1,b1,v3) H (fun _ h=>nomatch h) ?_
 clear H;rintro k1 ⟨x18,x19,x20,x21,x22,x23,x24,x25,x26,v8,b5,v9⟩ H;dsimp only at H ⊢;rw [rF]at H
 refine rc 3 fun _=>?_
 refine rc 4 fun _=>?_
 refine Z3 ?_
 refine aL ?_
 revert H;refine is (fun c1 H=>?_) fun c1 H=>?_
 refine Z3 ?_
 refine aL ?_
 revert H;refine B2z fun y1 h2 H=>?_
 refine Z2 ?_
 refine Tn (cF rfl qJ rfl) fun b6=>?_
 refine cM (φs':=[fI y1.In,fI y1.AU]) a1W rfl rfl (has rfl) (has rfl) (aI (aG a1W) (aI (aG a1W) bM)) (sz rfl) rfl rfl rfl ?_
 refine Z6 ?_
 refine Yy (fK (ψs:=[fI 0,fI a2]) rfl zJ rfl (bL.cons (has rfl) (cI (aG a1W)) bL.nil) rfl) ?_
 refine bA ?_
 refine bH ?_
 refine gD ?_
 refine aW ?_
 refine gD ?_
 refine gD ?_
 refine dP ?_
 revert H;refine bs fun y2 h3 H=>?_
 rcases y2 with y2 | pv1 <;> dsimp only at H
 refine Tc (jG _ _ _ _ _ h3).s ?_
 refine dW (fun v10 v11 v12=>?_)
 refine aM ?_
 refine bP (fun b7 h4=>?_);subst h4
 refine rc 2 fun _=>?_
 refine rc 3 fun _=>?_
 revert H;refine B4z fun z1 h5 H=>?_
 refine Z3 ?_
 refine aF [5,1,0,2,3] (by decide) ?_
 exact Tm ((k1,z1,y2.AC.AF,y2.AC.AE,y2.AC.Code,y2.AC.AG,y2.Ae,y2.last,y2.AR,y2.Ad,v10,b7,v12)) ⟨H,ls⟩
 refine Tp (jG _ _ _ _ _ h3).pan ?_
 revert H;refine B5z fun r1 H e1=>?_
 cases e1;cases Hr1
 cases H
 exact aR
 refine Z6 ?_
 exact Tm ((x19,x20,x21,x22,x23,x24,x25,x26,v8,b5,v9)) (ij H)
 rintro⟨x1,x2,x3,x4,x5,x6,x7,x8,v4,b3,v5⟩ hi;subst o1;replace H:=Hr1;clear Hr1;try dsimp only at H ⊢
 refine rc 3 fun _=>?_
 refine rc 4 fun _=>?_
 refine Z7 ?_
 refine Th (ι:=Int × Int × List AN × List AI × Int × List Int × List Int × aE Int AM × List Int × Value × Nat × Value) (fun i=>qR AA a1 a2 i.1 i.2.1 i.2.2.1 i.2.2.2.1 i.2.2.2.2.1 i.2.2.2.2.2.1 i.2.2.2.2.2.2.1 i.2.2.2.2.2.2.2.1 i.2.2.2.2.2.2.2.2.1 i.2.2.2.2.2.2.2.2.2.1=_) (fun i=>[(0,fEq (ptr p0)),(2,fI a2),(4,fEq (ptr b2)),(28,fSl bB a1.AO),(29,fI (a1.AO.length:Int)),(30,fI i.2.1)]) (fun i=>[aA b2 63 [fSl bC a1.AQ,fSl bD a1.AP,fSl bB a1.AO],aA p0 90 [fI i.2.2.1,fSl aB i.2.2.2.1,fSl aP i.2.2.2.2.1,fI i.2.2.2.2.2.1,fSl tI i.2.2.2.2.2.2.1,fEq i.2.2.2.2.2.2.2.2.2.2.1,fEq (.map (some i.2.2.2.2.2.2.2.2.2.2.2.1)),fEq i.2.2.2.2.2.2.2.2.2.2.2.2],bE aZ (fun y=>fSt bZ y) i.2.2.2.2.2.2.2.2.2.2.2.1 i.2.2.2.2.2.2.2.2.1,aD i.2.2.2.2.2.2.2.2.2.2.1 3 tI i.2.2.2.2.2.2.2.1,aD i.2.2.2.2.2.2.2.2.2.2.2.2 3 tI i.2.2.2.2.2.2.2.2.2.1]) (AA,0,x1,x2,x3,x4,x5,x6,x7,x8,v4,b3,v5) H (fun _ h=>nomatch h) ?_
 clear H;rintro k2 ⟨x36,x37,x38,x39,x40,x41,x42,x43,x44,v15,b9,v16⟩ H;dsimp only at H ⊢;rw [qR]at H
 refine rc 3 fun _=>?_
 refine rc 4 fun _=>?_
 refine Z3 ?_
 refine aL ?_
 refine iz H (fun c2 H=>?_) fun c2 H=>?_
 revert H;refine B3z fun o2 H Hr2=>?_
 refine aQ (ι:=Int × List AN × List AI × Int × List Int × List Int × aE Int AM × List Int × Value × Nat × Value) (fun i=>o2=Sum.inl (i.1,i.2.1,i.2.2.1,i.2.2.2.1,i.2.2.2.2.1,i.2.2.2.2.2.1,i.2.2.2.2.2.2.1,i.2.2.2.2.2.2.2.1)) (fun i=>[(0,fEq (ptr p0)),(2,fI a2),(4,fEq (ptr b2)),(28,fSl bB a1.AO),(29,fI (a1.AO.length:Int)),(30,fI x36)]) (fun i=>[aA p0 90 [fI i.1,fSl aB i.2.1,fSl aP i.2.2.1,fI i.2.2.2.1,fSl tI i.2.2.2.2.1,fEq i.2.2.2.2.2.2.2.2.1,fEq (.map (some i.2.2.2.2.2.2.2.2.2.1)),fEq i.2.2.2.2.2.2.2.2.2.2],aA b2 63 [fSl bC a1.AQ,fSl bD a1.AP,fSl bB a1.AO],bE aZ (fun y=>fSt bZ y) i.2.2.2.2.2.2.2.2.2.1 i.2.2.2.2.2.2.1,aD i.2.2.2.2.2.2.2.2.1 3 tI i.2.2.2.2.2.1,aD i.2.2.2.2.2.2.2.2.2.2 3 tI i.2.2.2.2.2.2.2.1]) ?_ ?_
 revert H;refine B2z fun y3 h6 H=>?_
 refine Z2 ?_
 refine Tn (cF rfl mF rfl) fun b11=>?_
 refine cM (φs':=[fI y3.At,fSl tI y3.AZ,fI y3.AU]) a1W rfl rfl (has rfl) (has rfl) (aI (aG a1W) (aI (bR) (aI (aG a1W) bM))) (sz rfl) rfl rfl rfl ?_
 revert H;refine B4z fun o3 H Hr3=>?_
 refine aQ (fun i=>o3=i) (fun i=>[(0,fEq (ptr p0)),(2,fI a2),(4,fEq (ptr b2)),(28,fSl bB a1.AO),(29,fI (a1.AO.length:Int)),(30,fI x36),(9,fEq (ptr b11)),(10,fI i)]) (fun i=>[aA b11 114 [fI y3.At,fSl tI y3.AZ,fI y3.AU],aA b2 63 [fSl bC a1.AQ,fSl bD a1.AP,fSl bB a1.AO],aA p0 90 [fI x37,fSl aB x38,fSl aP x39,fI x40,fSl tI x41,fEq v15,fEq (.map (some b9)),fEq v16],bE aZ (fun y=>fSt bZ y) b9 x43,aD v15 3 tI x42,aD v16 3 tI x44]) ?_ ?_
 refine Z7 ?_
 refine Th (ι:=Int × Int) (fun i=>sH a1 y3 i.1 i.2.1 i.2.2=_) (fun i=>[(0,fEq (ptr p0)),(2,fI a2),(4,fEq (ptr b2)),(28,fSl bB a1.AO),(29,fI (a1.AO.length:Int)),(30,fI x36),(9,fEq (ptr b11)),(10,fI i.2.1),(35,fSl tI y3.AZ),(36,fI (y3.AZ.length:Int)),(37,fI i.2.2)]) (fun i=>[aA b11 114 [fI y3.At,fSl tI y3.AZ,fI y3.AU],aA b2 63 [fSl bC a1.AQ,fSl bD a1.AP,fSl bB a1.AO],aA p0 90 [fI x37,fSl aB x38,fSl aP x39,fI x40,fSl tI x41,fEq v15,fEq (.map (some b9)),fEq v16],bE aZ (fun y=>fSt bZ y) b9 x43,aD v15 3 tI x42,aD v16 3 tI x44]) (AA,0,0) H (fun _ h=>nomatch h) ?_
 clear H;rintro k3 ⟨x56,x57⟩ H;dsimp only at H ⊢;rw [sH]at H
 refine Z3 ?_
 refine aL ?_
 revert H;refine is (fun c3 H=>?_) fun c3 H=>?_
 refine Z3 ?_
 refine aL ?_
 revert H;refine B2z fun y4 h7 H=>?_
 revert H;refine B9z fun y5 h8 H=>?_
 revert H;refine B3z fun z2 h9 H=>?_
 revert H;refine B6z fun z3 h10 H=>?_
 refine Z3 ?_
 exact Tm ((k3,z2,z3)) ⟨H,ls⟩
 refine Z6 ?_
 exact Tm (x56) (ij H)
 rintro x53 hi;subst o3;replace H:=Hr3;clear Hr3;try dsimp only at H ⊢
 revert H;refine B6z fun z4 h11 H=>?_
 refine Z1 ?_
 refine Yy (fK (ψs:=[fI 0,fI z4]) rfl zJ rfl (bL.cons (has rfl) (cI (aG a1W)) bL.nil) rfl) ?_
 refine bA ?_
 refine bH ?_
 refine gD ?_
 refine aW ?_
 refine gD ?_
 refine gD ?_
 refine dP ?_
 revert H;refine bs fun y6 h12 H=>?_
 rcases y6 with y6 | pv2 <;> dsimp only at H
 refine Tc (jG _ _ _ _ _ h12).s ?_
 refine dW (fun v19 v20 v21=>?_)
 refine aM ?_
 refine bP (fun b12 h13=>?_);subst h13
 refine rc 2 fun _=>?_
 refine rc 3 fun _=>?_
 refine Z3 ?_
 refine aF [1,5,0,2,3] (by decide) ?_
 exact Tm ((y6.AC.AF,y6.AC.AE,y6.AC.Code,y6.AC.AG,y6.Ae,y6.last,y6.AR,y6.Ad,v19,b12,v21)) (ij H)
 refine Tp (jG _ _ _ _ _ h12).pan ?_
 revert H;refine B2z fun r2 H e2=>?_
 cases e2;cases Hr2
 refine Z2 ?_
 cases H
 exact aR
 rintro⟨x45,x46,x47,x48,x49,x50,x51,x52,v17,b10,v18⟩ hi;subst o2;replace H:=Hr2;clear Hr2;try dsimp only at H ⊢
 refine rc 3 fun _=>?_
 refine rc 4 fun _=>?_
 refine B1 H fun z5 h14 H=>?_
 refine Z3 ?_
 refine aF [1,0,2,3,4] (by decide) ?_
 exact Tm ((k2,z5,x45,x46,x47,x48,x49,x50,x51,x52,v17,b10,v18)) ⟨H,ls⟩
 refine Z5 ?_
 refine aM ?_
 refine bH ?_
 refine aO ?_
 refine aW ?_
 refine aO ?_
 refine aO ?_
 refine dP ?_
 cases H
 refine fS ?_
 refine aF [0] (by decide) ?_
 exact cK (.inr rfl) rfl rfl
open Go.SX Go.SW Go.Dt
def rK (w0:AI) (w1:AM):Option (AM ⊕ Value):=
 (cC (decide (w0.A<w1.Ab))).bind fun y1=>
 match y1 with
 | Sum.inr pv1=>some (Sum.inr pv1)
 | Sum.inl y1=>
 some (Sum.inl (⟨w1.AY,w1.Ab⟩:AM))
theorem tS (q1:Nat) (w0:AI) (w1:AM) (r:AM ⊕ Value) (H:rK w0 w1=some r):FnE Tryz.prog 119 [aU aP w0,fEq (.pointer (some ⟨q1,0,none⟩))] [sJ q1 w1] r (fun r=>dA []) (fun r=>[sJ q1 r]):=by
 unfold rK at H
 refine gO Tryz.func119 rfl Tryz.ntmps119 rfl (fun β=>?_)
 refine nU ?_
 refine B6 H fun y1 h1 H=>?_
 rcases y1 with y1 | pv1 <;> dsimp only at H
 refine Tc (aY _ _ h1).s ?_
 refine Z1 ?_
 refine oA ?_
 cases H
 refine fS ?_
 exact cK (.inr rfl) rfl rfl
 refine Tp (aY _ _ h1).pan ?_
 cases H
 exact aR
def pP (w0:AM):Option (AM ⊕ Value):=
 (cC (decide (w0.AY=0))).bind fun y1=>
 match y1 with
 | Sum.inr pv1=>some (Sum.inr pv1)
 | Sum.inl y1=>
 some (Sum.inl (⟨w0.AY,w0.Ab⟩:AM))
theorem oF (q0:Nat) (w0:AM) (r:AM ⊕ Value) (H:pP w0=some r):FnE Tryz.prog 120 [fEq (.pointer (some ⟨q0,0,none⟩))] [sJ q0 w0] r (fun r=>dA []) (fun r=>[sJ q0 r]):=by
 unfold pP at H
 refine gO Tryz.func120 rfl Tryz.ntmps120 rfl (fun β=>?_)
 refine nU ?_
 refine B4 H fun y1 h1 H=>?_
 rcases y1 with y1 | pv1 <;> dsimp only at H
 refine Tc (aY _ _ h1).s ?_
 refine Z1 ?_
 refine oA ?_
 cases H
 refine fS ?_
 exact cK (.inr rfl) rfl rfl
 refine Tp (aY _ _ h1).pan ?_
 cases H
 exact aR
def uJ (AA:Nat) (a0:AV) (a1:Int):Option (AV ⊕ Value):=
 (idx a0.AC.Code a1).bind fun y1=>
 (if ((⟨y1.Op,y1.A,y1.B⟩:AI).Op)=1 then
  (nB (⟨((a0.AR.get a1).getD (⟨0,0⟩:AM)).AY,((a0.AR.get a1).getD (⟨0,0⟩:AM)).Ab⟩:AM) 0 1).bind fun y2=>
  match y2 with
  | Sum.inr pv1=>(some (Sum.inr pv1)).bind fun r=>some (Sum.inr r)
  | Sum.inl y2=>
  some (Sum.inl (y2.AY,y2.Ab,a0.AC.AF,a0.AC.AE,a0.AC.Code,a0.AC.AG,a0.Ae,a0.last,a0.AR,a0.Ad))
 else
  if ((⟨y1.Op,y1.A,y1.B⟩:AI).Op)=2 then
   (rK (⟨y1.Op,y1.A,y1.B⟩:AI) (⟨((a0.AR.get a1).getD (⟨0,0⟩:AM)).AY,((a0.AR.get a1).getD (⟨0,0⟩:AM)).Ab⟩:AM)).bind fun y3=>
   match y3 with
   | Sum.inr pv2=>(some (Sum.inr pv2)).bind fun r=>some (Sum.inr r)
   | Sum.inl y3=>
   (nB (⟨y3.AY,y3.Ab⟩:AM) 0 1).bind fun y4=>
   match y4 with
   | Sum.inr pv3=>(some (Sum.inr pv3)).bind fun r=>some (Sum.inr r)
   | Sum.inl y4=>
   some (Sum.inl (y4.AY,y4.Ab,a0.AC.AF,a0.AC.AE,a0.AC.Code,a0.AC.AG,a0.Ae,a0.last,a0.AR,a0.Ad))
  else
   (if ((⟨y1.Op,y1.A,y1.B⟩:AI).Op)=3 then
    some (decide (((⟨y1.Op,y1.A,y1.B⟩:AI).Op)=3))
   else
    if ((⟨y1.Op,y1.A,y1.B⟩:AI).Op)=4 then
     some (decide (((⟨y1.Op,y1.A,y1.B⟩:AI).Op)=4))
    else
     if ((⟨y1.Op,y1.A,y1.B⟩:AI).Op)=5 then
      some (decide (((⟨y1.Op,y1.A,y1.B⟩:AI).Op)=5))
     else
      if ((⟨y1.Op,y1.A,y1.B⟩:AI).Op)=6 then
       some (decide (((⟨y1.Op,y1.A,y1.B⟩:AI).Op)=6))
      else
       some (decide (((⟨y1.Op,y1.A,y1.B⟩:AI).Op)=7))).bind fun x11=>
   bif x11 then
    (nB (⟨((a0.AR.get a1).getD (⟨0,0⟩:AM)).AY,((a0.AR.get a1).getD (⟨0,0⟩:AM)).Ab⟩:AM) 2 1).bind fun y5=>
    match y5 with
    | Sum.inr pv4=>(some (Sum.inr pv4)).bind fun r=>some (Sum.inr r)
    | Sum.inl y5=>
    some (Sum.inl (y5.AY,y5.Ab,a0.AC.AF,a0.AC.AE,a0.AC.Code,a0.AC.AG,a0.Ae,a0.last,a0.AR,a0.Ad))
   else
    if ((⟨y1.Op,y1.A,y1.B⟩:AI).Op)=8 then
     (rK (⟨y1.Op,y1.A,y1.B⟩:AI) (⟨((a0.AR.get a1).getD (⟨0,0⟩:AM)).AY,((a0.AR.get a1).getD (⟨0,0⟩:AM)).Ab⟩:AM)).bind fun y6=>
     match y6 with
     | Sum.inr pv5=>(some (Sum.inr pv5)).bind fun r=>some (Sum.inr r)
     | Sum.inl y6=>
     (nB (⟨y6.AY,y6.Ab⟩:AM) ((⟨y1.Op,y1.A,y1.B⟩:AI).B) 0).bind fun y7=>
     match y7 with
     | Sum.inr pv6=>(some (Sum.inr pv6)).bind fun r=>some (Sum.inr r)
     | Sum.inl y7=>
     some (Sum.inl (y7.AY,y7.Ab,a0.AC.AF,a0.AC.AE,a0.AC.Code,a0.AC.AG,a0.Ae,a0.last,a0.AR,a0.Ad))
    else
     if ((⟨y1.Op,y1.A,y1.B⟩:AI).Op)=9 then
      (nB (⟨((a0.AR.get a1).getD (⟨0,0⟩:AM)).AY,((a0.AR.get a1).getD (⟨0,0⟩:AM)).Ab⟩:AM) 1 0).bind fun y8=>
      match y8 with
      | Sum.inr pv7=>(some (Sum.inr pv7)).bind fun r=>some (Sum.inr r)
      | Sum.inl y8=>
      (idx a0.last a1).bind fun y9=>
      (cC (decide (((⟨y1.Op,y1.A,y1.B⟩:AI).A)<=y9))).bind fun y10=>
      match y10 with
      | Sum.inr pv8=>(some (Sum.inr pv8)).bind fun r=>some (Sum.inr r)
      | Sum.inl y10=>
      (lO (⟨(⟨a0.AC.AF,a0.AC.AE,a0.AC.Code,a0.AC.AG⟩:AC),a0.Ae,a0.last,a0.AR,a0.Ad⟩:AV) ((⟨y1.Op,y1.A,y1.B⟩:AI).A) (⟨y8.AY,y8.Ab⟩:AM)).bind fun y11=>
      match y11 with
      | Sum.inr pv9=>(some (Sum.inr pv9)).bind fun r=>some (Sum.inr r)
      | Sum.inl y11=>
      some (Sum.inl (y8.AY,y8.Ab,y11.AC.AF,y11.AC.AE,y11.AC.Code,y11.AC.AG,y11.Ae,y11.last,y11.AR,y11.Ad))
     else
      if ((⟨y1.Op,y1.A,y1.B⟩:AI).Op)=10 then
       (idx a0.last a1).bind fun y12=>
       (cC (decide (((⟨y1.Op,y1.A,y1.B⟩:AI).A)<=y12))).bind fun y13=>
       match y13 with
       | Sum.inr pv10=>(some (Sum.inr pv10)).bind fun r=>some (Sum.inr r)
       | Sum.inl y13=>
       (lO (⟨(⟨a0.AC.AF,a0.AC.AE,a0.AC.Code,a0.AC.AG⟩:AC),a0.Ae,a0.last,a0.AR,a0.Ad⟩:AV) ((⟨y1.Op,y1.A,y1.B⟩:AI).A) (⟨((a0.AR.get a1).getD (⟨0,0⟩:AM)).AY,((a0.AR.get a1).getD (⟨0,0⟩:AM)).Ab⟩:AM)).bind fun y14=>
       match y14 with
       | Sum.inr pv11=>(some (Sum.inr pv11)).bind fun r=>some (Sum.inr r)
       | Sum.inl y14=>
       (some (Sum.inl (⟨(⟨y14.AC.AF,y14.AC.AE,y14.AC.Code,y14.AC.AG⟩:AC),y14.Ae,y14.last,y14.AR,y14.Ad⟩:AV))).bind fun r=>some (Sum.inr r)
      else
       if ((⟨y1.Op,y1.A,y1.B⟩:AI).Op)=11 then
        (pP (⟨((a0.AR.get a1).getD (⟨0,0⟩:AM)).AY,((a0.AR.get a1).getD (⟨0,0⟩:AM)).Ab⟩:AM)).bind fun y15=>
        match y15 with
        | Sum.inr pv12=>(some (Sum.inr pv12)).bind fun r=>some (Sum.inr r)
        | Sum.inl y15=>
        (idx a0.AC.AE ((⟨y1.Op,y1.A,y1.B⟩:AI).A)).bind fun y16=>
        (chk ((y16.AQ.length:Int)+(y16.AP.length:Int))).bind fun z1=>
        (chk (y15.Ab+z1)).bind fun z2=>
        (zB AA (⟨(⟨a0.AC.AF,a0.AC.AE,a0.AC.Code,a0.AC.AG⟩:AC),a0.Ae,a0.last,a0.AR,a0.Ad⟩:AV) (⟨y16.AQ,y16.AP,y16.AO⟩:AN) z2).bind fun y17=>
        match y17 with
        | Sum.inr pv13=>(some (Sum.inr pv13)).bind fun r=>some (Sum.inr r)
        | Sum.inl y17=>
        some (Sum.inl (y15.AY,z2,y17.AC.AF,y17.AC.AE,y17.AC.Code,y17.AC.AG,y17.Ae,y17.last,y17.AR,y17.Ad))
       else
        if ((⟨y1.Op,y1.A,y1.B⟩:AI).Op)=12 then
         (cC (decide (((⟨y1.Op,y1.A,y1.B⟩:AI).A)<=(((a0.AR.get a1).getD (⟨0,0⟩:AM)).Ab)))).bind fun y18=>
         match y18 with
         | Sum.inr pv14=>(some (Sum.inr pv14)).bind fun r=>some (Sum.inr r)
         | Sum.inl y18=>
         some (Sum.inl (((a0.AR.get a1).getD (⟨0,0⟩:AM)).AY,(⟨y1.Op,y1.A,y1.B⟩:AI).A,a0.AC.AF,a0.AC.AE,a0.AC.Code,a0.AC.AG,a0.Ae,a0.last,a0.AR,a0.Ad))
        else
         (if ((⟨y1.Op,y1.A,y1.B⟩:AI).Op)=13 then
          some (decide (((⟨y1.Op,y1.A,y1.B⟩:AI).Op)=13))
         else
          some (decide (((⟨y1.Op,y1.A,y1.B⟩:AI).Op)=15))).bind fun x12=>
         bif x12 then
          (rK (⟨y1.Op,y1.A,y1.B⟩:AI) (⟨((a0.AR.get a1).getD (⟨0,0⟩:AM)).AY,((a0.AR.get a1).getD (⟨0,0⟩:AM)).Ab⟩:AM)).bind fun y19=>
          match y19 with
          | Sum.inr pv15=>(some (Sum.inr pv15)).bind fun r=>some (Sum.inr r)
          | Sum.inl y19=>
          (pP (⟨y19.AY,y19.Ab⟩:AM)).bind fun y20=>
          match y20 with
          | Sum.inr pv16=>(some (Sum.inr pv16)).bind fun r=>some (Sum.inr r)
          | Sum.inl y20=>
          (lO (⟨(⟨a0.AC.AF,a0.AC.AE,a0.AC.Code,a0.AC.AG⟩:AC),a0.Ae,a0.last,a0.AR,a0.Ad⟩:AV) ((⟨y1.Op,y1.A,y1.B⟩:AI).B) (⟨0,y20.Ab⟩:AM)).bind fun y21=>
          match y21 with
          | Sum.inr pv17=>(some (Sum.inr pv17)).bind fun r=>some (Sum.inr r)
          | Sum.inl y21=>
          some (Sum.inl (y20.AY,y20.Ab,y21.AC.AF,y21.AC.AE,y21.AC.Code,y21.AC.AG,y21.Ae,y21.last,y21.AR,y21.Ad))
         else
          if ((⟨y1.Op,y1.A,y1.B⟩:AI).Op)=14 then
           (pP (⟨((a0.AR.get a1).getD (⟨0,0⟩:AM)).AY,((a0.AR.get a1).getD (⟨0,0⟩:AM)).Ab⟩:AM)).bind fun y22=>
           match y22 with
           | Sum.inr pv18=>(some (Sum.inr pv18)).bind fun r=>some (Sum.inr r)
           | Sum.inl y22=>
           some (Sum.inl (y22.AY,y22.Ab,a0.AC.AF,a0.AC.AE,a0.AC.Code,a0.AC.AG,a0.Ae,a0.last,a0.AR,a0.Ad))
          else
           if ((⟨y1.Op,y1.A,y1.B⟩:AI).Op)=16 then
            (pP (⟨((a0.AR.get a1).getD (⟨0,0⟩:AM)).AY,((a0.AR.get a1).getD (⟨0,0⟩:AM)).Ab⟩:AM)).bind fun y23=>
            match y23 with
            | Sum.inr pv19=>(some (Sum.inr pv19)).bind fun r=>some (Sum.inr r)
            | Sum.inl y23=>
            (some (Sum.inl (⟨(⟨a0.AC.AF,a0.AC.AE,a0.AC.Code,a0.AC.AG⟩:AC),a0.Ae,a0.last,a0.AR,a0.Ad⟩:AV))).bind fun r=>some (Sum.inr r)
           else
            some (Sum.inl (((a0.AR.get a1).getD (⟨0,0⟩:AM)).AY,((a0.AR.get a1).getD (⟨0,0⟩:AM)).Ab,a0.AC.AF,a0.AC.AE,a0.AC.Code,a0.AC.AG,a0.Ae,a0.last,a0.AR,a0.Ad))).bind fun o=>match o with
 | Sum.inr r=>some r
 | Sum.inl (x1,x2,x3,x4,x5,x6,x7,x8,x9,x10)=>
 (chk (a1+1)).bind fun z3=>
 (lO (⟨(⟨x3,x4,x5,x6⟩:AC),x7,x8,x9,x10⟩:AV) z3 (⟨x1,x2⟩:AM)).bind fun y24=>
 match y24 with
 | Sum.inr pv20=>some (Sum.inr pv20)
 | Sum.inl y24=>
 some (Sum.inl (⟨(⟨y24.AC.AF,y24.AC.AE,y24.AC.Code,y24.AC.AG⟩:AC),y24.Ae,y24.last,y24.AR,y24.Ad⟩:AV))
theorem aD3 (AA:Nat) (p0:Nat) (a0:AV) (a1:Int) (r:AV ⊕ Value) (H:uJ AA a0 a1=some r):FnE Tryz.prog 75 [fEq (.pointer (some ⟨p0,0,none⟩)),fI a1] [dT p0 a0] r (fun r=>dA []) (fun r=>[dT p0 r]):=by
 unfold uJ at H
 refine gO Tryz.func75 rfl Tryz.ntmps75 rfl (fun β=>?_)
 refine dW (fun v1 v2 v3=>?_)
 refine aM ?_
 refine bP (fun b1 h1=>?_);subst h1
 refine rc 2 fun _=>?_
 refine rc 3 fun _=>?_
 refine aL ?_
 refine bz H fun y1 h2 H=>?_
 apply bG (ods:=[_,_,_,_,_,_,_,_,_,_,_,_,_,_,_,_,_,_]) 18 2 6 bF rfl rfl rfl
 refine ND ?_
 refine M8 ?_
 intros
 refine M5 ?_
 intros
 refine Mo 0 rfl (uC (zα:=(⟨0,0⟩:AM)) (k:=a1) rfl hh hh rfl aAC (mR [(.int .i64 0),(.int .i64 0)])) fun _=>?_
 refine Mn 4 (fun b2=>ptr b2) (fun b2=>aA b2 73 [fI 0,fI 0,fI 0]) rfl (cF rfl aCo rfl) (fun b2 u1=>?_)
 refine Mn 5 (fun b3=>ptr b3) (fun b3=>aA b3 79 [fI 0,fI 0]) rfl (cF rfl aBG rfl) (fun b3 u2=>?_)
 refine rI (od:=od1 14 [4] true (fun b2 _=>eG) (fun b2 _=>[aA b2 73 [fI y1.Op,fI y1.A,fI y1.B]])) (p:=4) (φs':=[fI y1.Op,fI y1.A,fI y1.B]) rfl (fun _=>rfl) (fun _=>rfl) a1W rfl rfl rfl (has rfl) (has rfl) (aI (aG a1W) (aI (aG a1W) (aI (aG a1W) bM))) (sz rfl) rfl rfl rfl (fun _=>?_)
 refine rI (od:=od1 15 [5] true (fun b3 _=>eG) (fun b3 _=>[aA b3 79 [fI (((a0.AR.get a1).getD (⟨0,0⟩:AM)).AY),fI (((a0.AR.get a1).getD (⟨0,0⟩:AM)).Ab)]])) (p:=5) (φs':=[fI (((a0.AR.get a1).getD (⟨0,0⟩:AM)).AY),fI (((a0.AR.get a1).getD (⟨0,0⟩:AM)).Ab)]) rfl (fun _=>rfl) (fun _=>rfl) a1W rfl rfl rfl (has rfl) (has rfl) (aI (aG a1W) (aI (aG a1W) bM)) (sz rfl) rfl rfl rfl (fun _=>?_)
 refine Z3 ?_
 refine aO ?_
 refine dI (φ:=aU aP y1) (v:=ptr b2) [4] (iH aJ.rfl) fz ?_
 refine dH ?_
 refine Yy (oN rfl (aS.cons hh (aS.cons hh aS.nil))) ?_
 refine Z3 ?_
 refine Yy (oN rfl (aS.cons hh aS.nil)) ?_
 revert H;refine B2z fun o1 H Hr1=>?_
 refine aQ (ι:=Int × Int × Int × List AN × List AI × Int × List Int × List Int × aE Int AM × List Int × Value × Nat × Value) (fun i=>o1=Sum.inl (i.1,i.2.1,i.2.2.1,i.2.2.2.1,i.2.2.2.2.1,i.2.2.2.2.2.1,i.2.2.2.2.2.2.1,i.2.2.2.2.2.2.2.1,i.2.2.2.2.2.2.2.2.1,i.2.2.2.2.2.2.2.2.2.1)) (fun i=>[(0,fEq (ptr p0)),(1,fI a1),(5,fEq (ptr b3))]) (fun i=>[aA b3 79 [fI i.1,fI i.2.1],aA p0 90 [fI i.2.2.1,fSl aB i.2.2.2.1,fSl aP i.2.2.2.2.1,fI i.2.2.2.2.2.1,fSl tI i.2.2.2.2.2.2.1,fEq i.2.2.2.2.2.2.2.2.2.2.1,fEq (.map (some i.2.2.2.2.2.2.2.2.2.2.2.1)),fEq i.2.2.2.2.2.2.2.2.2.2.2.2],bE aZ (fun y=>fSt bZ y) i.2.2.2.2.2.2.2.2.2.2.2.1 i.2.2.2.2.2.2.2.2.1,aD i.2.2.2.2.2.2.2.2.2.2.1 3 tI i.2.2.2.2.2.2.2.1,aD i.2.2.2.2.2.2.2.2.2.2.2.2 3 tI i.2.2.2.2.2.2.2.2.2.1]) ?_ ?_
 revert H;refine I9z (fun c1 H=>?_) fun c1 H=>?_
 revert H;refine B3z fun y2 h3 H=>?_
 rcases y2 with y2 | pv1 <;> dsimp only at H
 refine Tc (mN _ _ _ _ h3).s ?_
 refine aO ?_
 refine cM (φs':=[fI y2.AY,fI y2.Ab]) a1W rfl rfl (has rfl) (has rfl) (aI (aG a1W) (aI (aG a1W) bM)) (sz rfl) rfl rfl rfl ?_
 refine Z3 ?_
 refine aF [0,2,1,3,4] (by decide) ?_
 exact Tm ((y2.AY,y2.Ab,a0.AC.AF,a0.AC.AE,a0.AC.Code,a0.AC.AG,a0.Ae,a0.last,a0.AR,a0.Ad,v1,b1,v3)) (ij H)
 refine Tp (mN _ _ _ _ h3).pan ?_
 revert H;refine B2z fun r1 H e1=>?_
 cases e1;cases Hr1
 cases H
 exact aR
 revert H;refine I5z (fun c2 H=>?_) fun c2 H=>?_
 refine Z3 ?_
 refine aO ?_
 refine oA ?_
 revert H;refine bs fun y3 h4 H=>?_
 rcases y3 with y3 | pv2 <;> dsimp only at H
 refine iI a1W rfl rfl rfl (has rfl) aS.nil rfl (cb rfl) (tS b3 y1 (⟨((a0.AR.get a1).getD (⟨0,0⟩:AM)).AY,((a0.AR.get a1).getD (⟨0,0⟩:AM)).Ab⟩:AM) (Sum.inl y3) h4).s rfl ?_
 refine nU ?_
 revert H;refine B3z fun y4 h5 H=>?_
 rcases y4 with y4 | pv3 <;> dsimp only at H
 refine Tc (mN _ _ _ _ h5).s ?_
 refine cM (φs':=[fI y4.AY,fI y4.Ab]) a1W rfl rfl (has rfl) (has rfl) (aI (aG a1W) (aI (aG a1W) bM)) (sz rfl) rfl rfl rfl ?_
 refine Z3 ?_
 refine aF [0,2,1,3,4] (by decide) ?_
 exact Tm ((y4.AY,y4.Ab,a0.AC.AF,a0.AC.AE,a0.AC.Code,a0.AC.AG,a0.Ae,a0.last,a0.AR,a0.Ad,v1,b1,v3)) (ij H)
 refine Tp (mN _ _ _ _ h5).pan ?_
 revert H;refine B2z fun r2 H e2=>?_
 cases e2;cases Hr1
 cases H
 exact aR
 refine lJ a1W rfl (has rfl) aS.nil rfl (cb rfl) (tS b3 y1 (⟨((a0.AR.get a1).getD (⟨0,0⟩:AM)).AY,((a0.AR.get a1).getD (⟨0,0⟩:AM)).Ab⟩:AM) (Sum.inr pv2) h4).pan rfl ?_
 revert H;refine B3z fun r3 H e3=>?_
 cases e3;cases Hr1
 cases H
 exact aR
 revert H;refine B1z fun o2 H Hr2=>?_
 refine aQ (fun i=>o2=i) (fun i=>[(0,fEq (ptr p0)),(1,fI a1),(4,aU aP y1),(5,fEq (ptr b3)),(6,dG 119 [aU aP y1,fEq (ptr b3)]),(7,dG 120 [fEq (ptr b3)]),(26,fI (y1.Op)),(37,aH i)]) (fun i=>[aA p0 90 [fI a0.AC.AF,fSl aB a0.AC.AE,fSl aP a0.AC.Code,fI a0.AC.AG,fSl tI a0.Ae,fEq v1,fEq (.map (some b1)),fEq v3],aA b3 79 [fI (((a0.AR.get a1).getD (⟨0,0⟩:AM)).AY),fI (((a0.AR.get a1).getD (⟨0,0⟩:AM)).Ab)],bE aZ (fun y=>fSt bZ y) b1 a0.AR,aD v1 3 tI a0.last,aD v3 3 tI a0.Ad]) ?_ ?_
 revert H;refine I4z (fun c3 H=>?_) fun c3 H=>?_
 refine Z3 ?_
 refine aF [1,4,0,2,3] (by decide) ?_
 exact Tm (decide ((y1.Op)=3)) (ij H)
 revert H;refine I5z (fun c4 H=>?_) fun c4 H=>?_
 refine Z3 ?_
 refine aF [1,4,0,2,3] (by decide) ?_
 exact Tm (decide ((y1.Op)=4)) (ij H)
 revert H;refine I5z (fun c5 H=>?_) fun c5 H=>?_
 refine Z3 ?_
 refine aF [1,4,0,2,3] (by decide) ?_
 exact Tm (decide ((y1.Op)=5)) (ij H)
 revert H;refine I5z (fun c6 H=>?_) fun c6 H=>?_
 refine Z3 ?_
 refine aF [1,4,0,2,3] (by decide) ?_
 exact Tm (decide ((y1.Op)=6)) (ij H)
 refine Z5 ?_
 refine aF [1,4,0,2,3] (by decide) ?_
 exact Tm (decide ((y1.Op)=7)) (ij H)
 rintro x11 hi;subst o2;replace H:=Hr2;clear Hr2;try dsimp only at H ⊢
 revert H;refine cs (fun c7 H=>?_) fun c7 H=>?_
 revert H;refine B3z fun y5 h6 H=>?_
 rcases y5 with y5 | pv4 <;> dsimp only at H
 refine Tc (mN _ _ _ _ h6).s ?_
 refine aW ?_
 refine cM (φs':=[fI y5.AY,fI y5.Ab]) a1W rfl rfl (has rfl) (has rfl) (aI (aG a1W) (aI (aG a1W) bM)) (sz rfl) rfl rfl rfl ?_
 refine Z3 ?_
 exact Tm ((y5.AY,y5.Ab,a0.AC.AF,a0.AC.AE,a0.AC.Code,a0.AC.AG,a0.Ae,a0.last,a0.AR,a0.Ad,v1,b1,v3)) (ij H)
 refine Tp (mN _ _ _ _ h6).pan ?_
 revert H;refine B2z fun r4 H e4=>?_
 cases e4;cases Hr1
 cases H
 exact aR
 revert H;refine I5z (fun c8 H=>?_) fun c8 H=>?_
 refine Z3 ?_
 refine aW ?_
 refine oA ?_
 revert H;refine bs fun y6 h7 H=>?_
 rcases y6 with y6 | pv5 <;> dsimp only at H
 refine iI a1W rfl rfl rfl (has rfl) aS.nil rfl (cb rfl) (tS b3 y1 (⟨((a0.AR.get a1).getD (⟨0,0⟩:AM)).AY,((a0.AR.get a1).getD (⟨0,0⟩:AM)).Ab⟩:AM) (Sum.inl y6) h7).s rfl ?_
 refine nU ?_
 revert H;refine B5z fun y7 h8 H=>?_
 rcases y7 with y7 | pv6 <;> dsimp only at H
 refine Tc (mN _ _ _ _ h8).s ?_
 refine cM (φs':=[fI y7.AY,fI y7.Ab]) a1W rfl rfl (has rfl) (has rfl) (aI (aG a1W) (aI (aG a1W) bM)) (sz rfl) rfl rfl rfl ?_
 refine Z3 ?_
 exact Tm ((y7.AY,y7.Ab,a0.AC.AF,a0.AC.AE,a0.AC.Code,a0.AC.AG,a0.Ae,a0.last,a0.AR,a0.Ad,v1,b1,v3)) (ij H)
 refine Tp (mN _ _ _ _ h8).pan ?_
 revert H;refine B2z fun r5 H e5=>?_
 cases e5;cases Hr1
 cases H
 exact aR
 refine lJ a1W rfl (has rfl) aS.nil rfl (cb rfl) (tS b3 y1 (⟨((a0.AR.get a1).getD (⟨0,0⟩:AM)).AY,((a0.AR.get a1).getD (⟨0,0⟩:AM)).Ab⟩:AM) (Sum.inr pv5) h7).pan rfl ?_
 revert H;refine B3z fun r6 H e6=>?_
 cases e6;cases Hr1
 cases H
 exact aR
 revert H;refine I5z (fun c9 H=>?_) fun c9 H=>?_
 revert H;refine B3z fun y8 h9 H=>?_
 rcases y8 with y8 | pv7 <;> dsimp only at H
 refine Tc (mN _ _ _ _ h9).s ?_
 refine aW ?_
 refine cM (φs':=[fI y8.AY,fI y8.Ab]) a1W rfl rfl (has rfl) (has rfl) (aI (aG a1W) (aI (aG a1W) bM)) (sz rfl) rfl rfl rfl ?_
 refine Z1 ?_
 refine aL ?_
 revert H;refine bs fun y9 h10 H=>?_
 apply bG (ods:=[_,_,_,_,_,_,_,_,_,_]) 10 0 5 bF rfl rfl rfl
 refine ND ?_
 refine M7 ?_
 intros
 refine Mo 3 rfl (lT rfl hh hh (el rfl) h10) fun _=>?_
 refine Mo 3 rfl (jE rfl rfl hh (sc rfl) (idx_get h10) rfl) fun _=>?_
 refine M1 ?_
 intros
 revert H;refine B1z fun y10 h11 H=>?_
 rcases y10 with y10 | pv8 <;> dsimp only at H
 refine Tc (aY _ _ h11).s ?_
 refine Z6 ?_
 refine aM ?_
 refine bH ?_
 refine aO ?_
 refine aW ?_
 refine aO ?_
 refine aO ?_
 refine dP ?_
 revert H;refine bs fun y11 h12 H=>?_
 rcases y11 with y11 | pv9 <;> dsimp only at H
 refine Tc (jG _ _ _ _ _ h12).s ?_
 refine dW (fun v6 v7 v8=>?_)
 refine aM ?_
 refine bP (fun b5 h13=>?_);subst h13
 refine rc 2 fun _=>?_
 refine rc 3 fun _=>?_
 refine Z3 ?_
 refine aF [4,1,0,2,3] (by decide) ?_
 exact Tm ((y8.AY,y8.Ab,y11.AC.AF,y11.AC.AE,y11.AC.Code,y11.AC.AG,y11.Ae,y11.last,y11.AR,y11.Ad,v6,b5,v8)) (ij H)
 refine Tp (jG _ _ _ _ _ h12).pan ?_
 revert H;refine B2z fun r7 H e7=>?_
 cases e7;cases Hr1
 cases H
 exact aR
 refine Tp (aY _ _ h11).pan ?_
 revert H;refine B3z fun r8 H e8=>?_
 cases e8;cases Hr1
 cases H
 exact aR
 exact fk
 kernel_rfl
 refine Tp (mN _ _ _ _ h9).pan ?_
 revert H;refine B3z fun r9 H e9=>?_
 cases e9;cases Hr1
 cases H
 exact aR
 revert H;refine I5z (fun c10 H=>?_) fun c10 H=>?_
 refine Z1 ?_
 refine aL ?_
 revert H;refine bs fun y12 h14 H=>?_
 apply bG (ods:=[_,_,_,_,_,_,_,_,_,_]) 10 0 5 bF rfl rfl rfl
 refine ND ?_
 refine M8 ?_
 intros
 refine Mo 3 rfl (jE rfl rfl hh (sc rfl) (idx_get h14) rfl) fun _=>?_
 refine M1 ?_
 intros
 revert H;refine B1z fun y13 h15 H=>?_
 rcases y13 with y13 | pv10 <;> dsimp only at H
 refine Tc (aY _ _ h15).s ?_
 refine Z6 ?_
 refine aM ?_
 refine bH ?_
 refine aO ?_
 refine aW ?_
 refine aO ?_
 refine bA ?_
 refine dP ?_
 revert H;refine bs fun y14 h16 H=>?_
 rcases y14 with y14 | pv11 <;> dsimp only at H
 refine Tc (jG _ _ _ _ _ h16).s ?_
 refine dW (fun v9 v10 v11=>?_)
 refine aM ?_
 refine bP (fun b6 h17=>?_);subst h17
 refine rc 2 fun _=>?_
 refine rc 3 fun _=>?_
 revert H;refine B4z fun r10 H e10=>?_
 cases e10;cases Hr1
 refine bH ?_
 refine bA ?_
 refine aW ?_
 refine bA ?_
 refine bA ?_
 refine dP ?_
 cases H
 refine fS ?_
 refine aF [0] (by decide) ?_
 exact cK (.inl rfl) rfl rfl
 refine Tp (jG _ _ _ _ _ h16).pan ?_
 revert H;refine B3z fun r11 H e11=>?_
 cases e11;cases Hr1
 cases H
 exact aR
 refine Tp (aY _ _ h15).pan ?_
 revert H;refine B3z fun r12 H e12=>?_
 cases e12;cases Hr1
 cases H
 exact aR
 exact fk
 kernel_rfl
 revert H;refine I5z (fun c11 H=>?_) fun c11 H=>?_
 refine Z3 ?_
 refine aW ?_
 refine oA ?_
 revert H;refine bs fun y15 h18 H=>?_
 rcases y15 with y15 | pv12 <;> dsimp only at H
 refine iI a1W rfl rfl rfl (has rfl) aS.nil rfl (cb rfl) (oF b3 (⟨((a0.AR.get a1).getD (⟨0,0⟩:AM)).AY,((a0.AR.get a1).getD (⟨0,0⟩:AM)).Ab⟩:AM) (Sum.inl y15) h18).s rfl ?_
 refine nU ?_
 refine Z1 ?_
 refine aL ?_
 revert H;refine bs fun y16 h19 H=>?_
 apply bG (ods:=[_,_,_,_,_,_,_,_,_,_,_]) 11 1 6 bF rfl rfl rfl
 refine ND ?_
 refine M8 ?_
 intros
 refine M1 ?_
 intros
 refine Mn 5 (fun b7=>ptr b7) (fun b7=>aA b7 63 [fEq (.slice none 0 0),fEq (.slice none 0 0),fEq (.slice none 0 0)]) rfl (cF rfl qN rfl) (fun b7 u3=>?_)
 refine rI (od:=od1 9 [5] true (fun b7 _=>eG) (fun b7 _=>[aA b7 63 [fSl bC y16.AQ,fSl bD y16.AP,fSl bB y16.AO]])) (p:=5) (φs':=[fSl bC y16.AQ,fSl bD y16.AP,fSl bB y16.AO]) rfl (fun _=>rfl) (fun _=>rfl) a1W rfl rfl rfl (has rfl) (has rfl) (aI (bR) (aI (bR) (aI (bR) bM))) (sz rfl) rfl rfl rfl (fun _=>?_)
 revert H;refine jR fun z1 h20 H=>?_
 revert H;refine B1z fun z2 h21 H=>?_
 refine Z2 ?_
 refine cQ (φs':=[fI y15.AY,fI z2]) a1W rfl rfl (has rfl) (has rfl) (aG a1W) (sz rfl) rfl rfl ?_
 refine Z6 ?_
 refine aM ?_
 refine bH ?_
 refine aO ?_
 refine aW ?_
 refine aO ?_
 refine aO ?_
 refine dP ?_
 revert H;refine bs fun y17 h22 H=>?_
 rcases y17 with y17 | pv13 <;> dsimp only at H
 refine Tc (aDG _ _ _ _ _ _ h22).s ?_
 refine dW (fun v12 v13 v14=>?_)
 refine aM ?_
 refine bP (fun b8 h23=>?_);subst h23
 refine rc 2 fun _=>?_
 refine rc 3 fun _=>?_
 refine Z3 ?_
 refine aF [4,1,0,2,3] (by decide) ?_
 exact Tm ((y15.AY,z2,y17.AC.AF,y17.AC.AE,y17.AC.Code,y17.AC.AG,y17.Ae,y17.last,y17.AR,y17.Ad,v12,b8,v14)) (ij H)
 refine Tp (aDG _ _ _ _ _ _ h22).pan ?_
 revert H;refine B2z fun r13 H e13=>?_
 cases e13;cases Hr1
 cases H
 exact aR
 exact fk
 kernel_rfl
 refine lJ a1W rfl (has rfl) aS.nil rfl (cb rfl) (oF b3 (⟨((a0.AR.get a1).getD (⟨0,0⟩:AM)).AY,((a0.AR.get a1).getD (⟨0,0⟩:AM)).Ab⟩:AM) (Sum.inr pv12) h18).pan rfl ?_
 revert H;refine B3z fun r14 H e14=>?_
 cases e14;cases Hr1
 cases H
 exact aR
 revert H;refine I5z (fun c12 H=>?_) fun c12 H=>?_
 revert H;refine B7z fun y18 h24 H=>?_
 rcases y18 with y18 | pv14 <;> dsimp only at H
 refine Tc (aY _ _ h24).s ?_
 refine Z5 ?_
 refine aW ?_
 refine cQ (φs':=[fI (((a0.AR.get a1).getD (⟨0,0⟩:AM)).AY),fI (y1.A)]) a1W rfl rfl (has rfl) (has rfl) (aG a1W) (sz rfl) rfl rfl ?_
 refine Z3 ?_
 exact Tm ((((a0.AR.get a1).getD (⟨0,0⟩:AM)).AY,y1.A,a0.AC.AF,a0.AC.AE,a0.AC.Code,a0.AC.AG,a0.Ae,a0.last,a0.AR,a0.Ad,v1,b1,v3)) (ij H)
 refine Tp (aY _ _ h24).pan ?_
 revert H;refine B3z fun r15 H e15=>?_
 cases e15;cases Hr1
 cases H
 exact aR
 revert H;refine B1z fun o3 H Hr3=>?_
 refine aQ (fun i=>o3=i) (fun i=>[(0,fEq (ptr p0)),(1,fI a1),(4,aU aP y1),(5,fEq (ptr b3)),(6,dG 119 [aU aP y1,fEq (ptr b3)]),(7,dG 120 [fEq (ptr b3)]),(26,fI (y1.Op)),(131,aH i)]) (fun i=>[aA p0 90 [fI a0.AC.AF,fSl aB a0.AC.AE,fSl aP a0.AC.Code,fI a0.AC.AG,fSl tI a0.Ae,fEq v1,fEq (.map (some b1)),fEq v3],aA b3 79 [fI (((a0.AR.get a1).getD (⟨0,0⟩:AM)).AY),fI (((a0.AR.get a1).getD (⟨0,0⟩:AM)).Ab)],bE aZ (fun y=>fSt bZ y) b1 a0.AR,aD v1 3 tI a0.last,aD v3 3 tI a0.Ad]) ?_ ?_
 revert H;refine I4z (fun c13 H=>?_) fun c13 H=>?_
 refine Z3 ?_
 exact Tm (decide ((y1.Op)=13)) (ij H)
 refine Z5 ?_
 exact Tm (decide ((y1.Op)=15)) (ij H)
 rintro x12 hi;subst o3;replace H:=Hr3;clear Hr3;try dsimp only at H ⊢
 revert H;refine cs (fun c14 H=>?_) fun c14 H=>?_
 refine Z3 ?_
 refine aW ?_
 refine oA ?_
 revert H;refine bs fun y19 h25 H=>?_
 rcases y19 with y19 | pv15 <;> dsimp only at H
 refine iI a1W rfl rfl rfl (has rfl) aS.nil rfl (cb rfl) (tS b3 y1 (⟨((a0.AR.get a1).getD (⟨0,0⟩:AM)).AY,((a0.AR.get a1).getD (⟨0,0⟩:AM)).Ab⟩:AM) (Sum.inl y19) h25).s rfl ?_
 refine nU ?_
 refine Z3 ?_
 refine oA ?_
 revert H;refine bs fun y20 h26 H=>?_
 rcases y20 with y20 | pv16 <;> dsimp only at H
 refine iI a1W rfl rfl rfl (has rfl) aS.nil rfl (cb rfl) (oF b3 y19 (Sum.inl y20) h26).s rfl ?_
 refine nU ?_
 refine Z7 ?_
 refine Yy (fK (ψs:=[fI 0,fI y20.Ab]) rfl zJ rfl (bL.cons (has rfl) (cI (aG a1W)) bL.nil) rfl) ?_
 refine aM ?_
 refine bH ?_
 refine aO ?_
 refine aW ?_
 refine aO ?_
 refine aO ?_
 refine dP ?_
 revert H;refine bs fun y21 h27 H=>?_
 rcases y21 with y21 | pv17 <;> dsimp only at H
 refine Tc (jG _ _ _ _ _ h27).s ?_
 refine dW (fun v15 v16 v17=>?_)
 refine aM ?_
 refine bP (fun b9 h28=>?_);subst h28
 refine rc 2 fun _=>?_
 refine rc 3 fun _=>?_
 refine Z3 ?_
 refine aF [4,1,0,2,3] (by decide) ?_
 exact Tm ((y20.AY,y20.Ab,y21.AC.AF,y21.AC.AE,y21.AC.Code,y21.AC.AG,y21.Ae,y21.last,y21.AR,y21.Ad,v15,b9,v17)) (ij H)
 refine Tp (jG _ _ _ _ _ h27).pan ?_
 revert H;refine B2z fun r16 H e16=>?_
 cases e16;cases Hr1
 cases H
 exact aR
 refine lJ a1W rfl (has rfl) aS.nil rfl (cb rfl) (oF b3 y19 (Sum.inr pv16) h26).pan rfl ?_
 revert H;refine B3z fun r17 H e17=>?_
 cases e17;cases Hr1
 cases H
 exact aR
 refine lJ a1W rfl (has rfl) aS.nil rfl (cb rfl) (tS b3 y1 (⟨((a0.AR.get a1).getD (⟨0,0⟩:AM)).AY,((a0.AR.get a1).getD (⟨0,0⟩:AM)).Ab⟩:AM) (Sum.inr pv15) h25).pan rfl ?_
 revert H;refine B3z fun r18 H e18=>?_
 cases e18;cases Hr1
 cases H
 exact aR
 revert H;refine I5z (fun c15 H=>?_) fun c15 H=>?_
 refine Z3 ?_
 refine aW ?_
 refine oA ?_
 revert H;refine bs fun y22 h29 H=>?_
 rcases y22 with y22 | pv18 <;> dsimp only at H
 refine iI a1W rfl rfl rfl (has rfl) aS.nil rfl (cb rfl) (oF b3 (⟨((a0.AR.get a1).getD (⟨0,0⟩:AM)).AY,((a0.AR.get a1).getD (⟨0,0⟩:AM)).Ab⟩:AM) (Sum.inl y22) h29).s rfl ?_
 refine nU ?_
 refine Z3 ?_
 exact Tm ((y22.AY,y22.Ab,a0.AC.AF,a0.AC.AE,a0.AC.Code,a0.AC.AG,a0.Ae,a0.last,a0.AR,a0.Ad,v1,b1,v3)) (ij H)
 refine lJ a1W rfl (has rfl) aS.nil rfl (cb rfl) (oF b3 (⟨((a0.AR.get a1).getD (⟨0,0⟩:AM)).AY,((a0.AR.get a1).getD (⟨0,0⟩:AM)).Ab⟩:AM) (Sum.inr pv18) h29).pan rfl ?_
 revert H;refine B2z fun r19 H e19=>?_
 cases e19;cases Hr1
 cases H
 exact aR
 revert H;refine I5z (fun c16 H=>?_) fun c16 H=>?_
 refine Z3 ?_
 refine aW ?_
 refine oA ?_
 revert H;refine bs fun y23 h30 H=>?_
 rcases y23 with y23 | pv19 <;> dsimp only at H
 refine iI a1W rfl rfl rfl (has rfl) aS.nil rfl (cb rfl) (oF b3 (⟨((a0.AR.get a1).getD (⟨0,0⟩:AM)).AY,((a0.AR.get a1).getD (⟨0,0⟩:AM)).Ab⟩:AM) (Sum.inl y23) h30).s rfl ?_
 refine nU ?_
 revert H;refine B4z fun r20 H e20=>?_
 cases e20;cases Hr1
 refine aM ?_
 refine bH ?_
 refine aO ?_
 refine aW ?_
 refine aO ?_
 refine aO ?_
 refine dP ?_
 cases H
 refine fS ?_
 refine aF [0] (by decide) ?_
 exact cK (.inl rfl) rfl rfl
 refine lJ a1W rfl (has rfl) aS.nil rfl (cb rfl) (oF b3 (⟨((a0.AR.get a1).getD (⟨0,0⟩:AM)).AY,((a0.AR.get a1).getD (⟨0,0⟩:AM)).Ab⟩:AM) (Sum.inr pv19) h30).pan rfl ?_
 revert H;refine B3z fun r21 H e21=>?_
 cases e21;cases Hr1
 cases H
 exact aR
 refine Z4 ?_
 refine aF [1,0,2,3,4] (by decide) ?_
 exact Tm ((((a0.AR.get a1).getD (⟨0,0⟩:AM)).AY,((a0.AR.get a1).getD (⟨0,0⟩:AM)).Ab,a0.AC.AF,a0.AC.AE,a0.AC.Code,a0.AC.AG,a0.Ae,a0.last,a0.AR,a0.Ad,v1,b1,v3)) (ij H)
 rintro⟨x1,x2,x3,x4,x5,x6,x7,x8,x9,x10,v4,b4,v5⟩ hi;subst o1;replace H:=Hr1;clear Hr1;try dsimp only at H ⊢
 refine rc 3 fun _=>?_
 refine rc 4 fun _=>?_
 refine B3 H fun z3 h31 H=>?_
 refine Z2 ?_
 refine aM ?_
 refine bH ?_
 refine aO ?_
 refine aW ?_
 refine aO ?_
 refine aO ?_
 refine dP ?_
 refine bz H fun y24 h32 H=>?_
 rcases y24 with y24 | pv20 <;> dsimp only at H
 refine Tc (jG _ _ _ _ _ h32).s ?_
 refine dW (fun v18 v19 v20=>?_)
 refine aM ?_
 refine bP (fun b10 h33=>?_);subst h33
 refine rc 2 fun _=>?_
 refine rc 3 fun _=>?_
 refine Z1 ?_
 refine bH ?_
 refine bA ?_
 refine aW ?_
 refine bA ?_
 refine bA ?_
 refine dP ?_
 cases H
 refine fS ?_
 refine aF [0] (by decide) ?_
 exact cK (.inr rfl) rfl rfl
 refine Tp (jG _ _ _ _ _ h32).pan ?_
 cases H
 exact aR
 exact fk
 kernel_rfl
open Go.SX Go.SW Go.Dt
theorem aJz (p0 p1:Nat) (φ0 φ1:AJ):FnD Tryz.prog 68 [fEq (ptr p0),fEq (ptr p1)] [aA p0 85 [φ0],aA p1 4 [φ1]] (.returning) [aA p0 85 [φ0],aA p1 4 [φ1]]:=by
 refine aA8 Tryz.func68 rfl Tryz.ntmps68 rfl (fun β c₀ cs hc=>?_)
 refine aGz (v:= .nilIface) (cs':=c₀ :: cs) (by simp [recoverD,hc]) rfl rfl rfl rfl ?_
 refine T_inS ?_
 refine Z2 ?_
 refine Yy (aFw rfl hh aAS (rfl:gU _=some true)) ?_
 refine Z6 ?_
 exact aAZ (u':= .returning) (.inr rfl) rfl (by cases c₀;cases hc;rfl) rfl rfl
theorem kH (p0 p1:Nat) (φ0 φ1:AJ):FnD Tryz.prog 68 [fEq (ptr p0),fEq (ptr p1)] [aA p0 85 [φ0],aA p1 4 [φ1]] (.panicking [{ v:=(.iface 163 (.agg #[])),recovered:=false }]) [aA p0 85 [fEq (Go.Value.pointer Option.none)],aA p1 4 [aH false]]:=by
 refine aA8 Tryz.func68 rfl Tryz.ntmps68 rfl (fun β c₀ cs hc=>?_)
 refine aGz (v:=(.iface 163 (.agg #[]))) (cs':={ c₀ with mode:= .panicking [{ v:=(.iface 163 (.agg #[])),recovered:=true }] } :: cs) (by simp [recoverD,hc]) rfl rfl rfl rfl ?_
 refine T_inS ?_
 refine Z2 ?_
 refine Yy (aFw rfl hh aAS (rfl:gU _=some false)) ?_
 refine Z3 ?_
 refine Yy (aHn rfl hh aEk aKU) ?_
 refine Z2 ?_
 refine aBH 10 rfl (mR []) ?_
 refine Z3 ?_
 refine Tn (cF rfl aKL rfl) fun b1=>?_
 refine cM (φs':=[]) a1W rfl rfl hh hh bM (sz rfl) rfl rfl rfl ?_
 refine Z2 ?_
 refine aW ?_
 refine cQ (φs':=[fEq (Go.Value.pointer Option.none)]) a1W rfl rfl (has rfl) (has rfl) (aG a1W) (sz rfl) rfl rfl ?_
 refine aM ?_
 refine cQ (φs':=[aH false]) a1W rfl rfl (has rfl) (has rfl) (aG a1W) (sz rfl) rfl rfl ?_
 refine Z2 ?_
 refine aF [1,0] (by decide) ?_
 exact aAZ (u':= .panicking [{ v:=(.iface 163 (.agg #[])),recovered:=true }]) (.inr rfl) rfl rfl rfl rfl
def sS (AA:Nat) (a0:AC):Nat->Int->Int->(List AN)->(List AI)->Int->(List Int)->(List Int)->(aE Int AM)->(List Int)->Option ((Int × List AN × List AI × Int × List Int × List Int × aE Int AM × List Int) ⊕ ((Option AV) × Bool))
| 0,_,_,_,_,_,_,_,_,_=>none
| k+1,x26,x27,x28,x29,x30,x31,x32,x33,x34=>
 if x26<(a0.AE.length:Int)then
  (idx a0.AE x26).bind fun y8=>
  (yL AA (⟨(⟨x27,x28,x29,x30⟩:AC),x31,x32,x33,x34⟩:AV) (⟨y8.AQ,y8.AP,y8.AO⟩:AN)).bind fun y9=>
  match y9 with
  | Sum.inr pv7=>((unW 163 pv7).bind fun e14=>some (none,false)).bind fun r=>some (Sum.inr r)
  | Sum.inl y9=>
  (chk (x26+1)).bind fun z1=>
  sS AA a0 k z1 y9.AC.AF y9.AC.AE y9.AC.Code y9.AC.AG y9.Ae y9.last y9.AR y9.Ad
 else
  some (Sum.inl (x27,x28,x29,x30,x31,x32,x33,x34))
def lV (AA:Nat):Nat->Int->(List AN)->(List AI)->Int->(List Int)->(List Int)->(aE Int AM)->(List Int)->Option ((Int × List AN × List AI × Int × List Int × List Int × aE Int AM × List Int) ⊕ ((Option AV) × Bool))
| 0,_,_,_,_,_,_,_,_=>none
| k+1,x51,x52,x53,x54,x55,x56,x57,x58=>
 if 0<(x58.length:Int)then
  (chk ((x58.length:Int) - 1)).bind fun z2=>
  (idx x58 z2).bind fun y13=>
  (chk ((x58.length:Int) - 1)).bind fun z3=>
  (slc x58 0 z3).bind fun y14=>
  (uJ AA (⟨(⟨x51,x52,x53,x54⟩:AC),x55,x56,x57,y14⟩:AV) y13).bind fun y15=>
  match y15 with
  | Sum.inr pv11=>((unW 163 pv11).bind fun e16=>some (none,false)).bind fun r=>some (Sum.inr r)
  | Sum.inl y15=>
  lV AA k y15.AC.AF y15.AC.AE y15.AC.Code y15.AC.AG y15.Ae y15.last y15.AR y15.Ad
 else
  some (Sum.inl (x51,x52,x53,x54,x55,x56,x57,x58))
def fV (AA:Nat) (a0:AC):Option ((Option AV) × Bool):=
 (if 0<=a0.AF then
  if a0.AF<=12 then
   if (a0.AE.length:Int)<=12 then
    if 0<(a0.Code.length:Int)then
     if (a0.Code.length:Int)<=12000 then
      (lX (⟨(⟨a0.AF,a0.AE,a0.Code,a0.AG⟩:AC),[],[],(aE.none:aE Int AM),[]⟩:AV) a0.AG).bind fun y1=>
      (cC y1.2).bind fun y2=>
      match y2 with
      | Sum.inr pv1=>((unW 163 pv1).bind fun e2=>some (none,false)).bind fun r=>some (Sum.inr r)
      | Sum.inl y2=>
      some (Sum.inl (y1.1.AC.AF,y1.1.AC.AE,y1.1.AC.Code,y1.1.AC.AG,y1.1.Ae,y1.1.last,y1.1.AR,y1.1.Ad))
     else
      (cC false).bind fun y3=>
      match y3 with
      | Sum.inr pv2=>((unW 163 pv2).bind fun e4=>some (none,false)).bind fun r=>some (Sum.inr r)
      | Sum.inl y3=>
      some (Sum.inl (a0.AF,a0.AE,a0.Code,a0.AG,[],[],(aE.none:aE Int AM),[]))
    else
     (cC false).bind fun y4=>
     match y4 with
     | Sum.inr pv3=>((unW 163 pv3).bind fun e6=>some (none,false)).bind fun r=>some (Sum.inr r)
     | Sum.inl y4=>
     some (Sum.inl (a0.AF,a0.AE,a0.Code,a0.AG,[],[],(aE.none:aE Int AM),[]))
   else
    (cC false).bind fun y5=>
    match y5 with
    | Sum.inr pv4=>((unW 163 pv4).bind fun e8=>some (none,false)).bind fun r=>some (Sum.inr r)
    | Sum.inl y5=>
    some (Sum.inl (a0.AF,a0.AE,a0.Code,a0.AG,[],[],(aE.none:aE Int AM),[]))
  else
   (cC false).bind fun y6=>
   match y6 with
   | Sum.inr pv5=>((unW 163 pv5).bind fun e10=>some (none,false)).bind fun r=>some (Sum.inr r)
   | Sum.inl y6=>
   some (Sum.inl (a0.AF,a0.AE,a0.Code,a0.AG,[],[],(aE.none:aE Int AM),[]))
 else
  (cC false).bind fun y7=>
  match y7 with
  | Sum.inr pv6=>((unW 163 pv6).bind fun e12=>some (none,false)).bind fun r=>some (Sum.inr r)
  | Sum.inl y7=>
  some (Sum.inl (a0.AF,a0.AE,a0.Code,a0.AG,[],[],(aE.none:aE Int AM),[]))).bind fun o=>match o with
 | Sum.inr r=>some r
 | Sum.inl (x1,x2,x3,x4,x5,x6,x7,x8)=>
 (sS AA a0 AA 0 x1 x2 x3 x4 x5 x6 x7 x8).bind fun o=>match o with
 | Sum.inr r=>some r
 | Sum.inl (x9,x10,x11,x12,x13,x14,x15,x16)=>
 (wR AA (⟨(⟨x9,x10,x11,x12⟩:AC),x13,x14,x15,x16⟩:AV)).bind fun y10=>
 match y10 with
 | Sum.inr pv8=>(unW 163 pv8).bind fun e20=>some (none,false)
 | Sum.inl y10=>
 (mV AA (⟨(⟨y10.AC.AF,y10.AC.AE,y10.AC.Code,y10.AC.AG⟩:AC),y10.Ae,y10.last,y10.AR,y10.Ad⟩:AV)).bind fun y11=>
 match y11 with
 | Sum.inr pv9=>(unW 163 pv9).bind fun e19=>some (none,false)
 | Sum.inl y11=>
 (lO (⟨(⟨y11.AC.AF,y11.AC.AE,y11.AC.Code,y11.AC.AG⟩:AC),y11.Ae,y11.last,y11.AR,y11.Ad⟩:AV) a0.AG (⟨0,a0.AF⟩:AM)).bind fun y12=>
 match y12 with
 | Sum.inr pv10=>(unW 163 pv10).bind fun e18=>some (none,false)
 | Sum.inl y12=>
 (lV AA AA y12.AC.AF y12.AC.AE y12.AC.Code y12.AC.AG y12.Ae y12.last y12.AR y12.Ad).bind fun o=>match o with
 | Sum.inr r=>some r
 | Sum.inl (x35,x36,x37,x38,x39,x40,x41,x42)=>
 (cC (decide ((x41.size:Int)=(a0.Code.length:Int)))).bind fun y16=>
 match y16 with
 | Sum.inr pv12=>(unW 163 pv12).bind fun e17=>some (none,false)
 | Sum.inl y16=>
 some (some (⟨(⟨x35,x36,x37,x38⟩:AC),x39,x40,x41,x42⟩:AV),true)
theorem aIv (AA:Nat)  (a0:AC) (r:(Option AV) × Bool) (H:fV AA a0=some r):FnS Tryz.prog 31 [fSt lR a0] [] (dA [fOpt aCM r.1,aH r.2]) (fun _=>[]):=by
 unfold fV at H
 refine aGO Tryz.func31 rfl Tryz.ntmps31 rfl (fun β=>?_)
 refine Z1 ?_
 refine Tn (cA rfl hh bT) fun b1=>?_
 refine Tn (cF rfl ty_ze_85 rfl) fun b2=>?_
 refine Tn (cF rfl aA2 rfl) fun b3=>?_
 refine Z2 ?_
 refine Yy (oN rfl (aS.cons hh (aS.cons hh aS.nil))) ?_
 refine T_deferC (vs:=[ptr b2,ptr b3]) a1W rfl rfl (has rfl) ?_
 refine Z3 ?_
 refine Tn (uM (fun y=>fSt bZ y) aZ rfl) fun b4=>?_
 refine Yy (fK (ψs:=[fI a0.AF,fSl aB a0.AE,fSl aP a0.Code,fI a0.AG,fEq (.slice none 0 0),fEq (.slice none 0 0),fEq (.map (some b4)),fEq (.slice none 0 0)]) rfl ty_bu_90 rfl (bL.cons (has rfl) bT (bL.cons (has rfl) (cI (aG a1W)) bL.nil)) rfl) ?_
 refine Tn (cA rfl hh bT) fun b5=>?_
 refine bA ?_
 refine cQ (φs':=[fEq (ptr b5)]) a1W rfl rfl (has rfl) (has rfl) (aG a1W) (sz rfl) rfl rfl ?_
 revert H;refine B1z fun o1 H Hr1=>?_
 refine aQ (ι:=Int × List AN × List AI × Int × List Int × List Int × aE Int AM × List Int × Value × Nat × Value) (fun i=>o1=Sum.inl (i.1,i.2.1,i.2.2.1,i.2.2.2.1,i.2.2.2.2.1,i.2.2.2.2.2.1,i.2.2.2.2.2.2.1,i.2.2.2.2.2.2.2.1)) (fun i=>[(1,fEq (ptr b1)),(2,fEq (ptr b2)),(3,fEq (ptr b3))]) (fun i=>[aA b5 90 [fI i.1,fSl aB i.2.1,fSl aP i.2.2.1,fI i.2.2.2.1,fSl tI i.2.2.2.2.1,fEq i.2.2.2.2.2.2.2.2.1,fEq (.map (some i.2.2.2.2.2.2.2.2.2.1)),fEq i.2.2.2.2.2.2.2.2.2.2],aA b2 85 [fEq (ptr b5)],aA b3 4 [aH false],aA b1 25 [fI a0.AF,fSl aB a0.AE,fSl aP a0.Code,fI a0.AG],bE aZ (fun y=>fSt bZ y) i.2.2.2.2.2.2.2.2.2.1 i.2.2.2.2.2.2.1,aD i.2.2.2.2.2.2.2.2.1 3 tI i.2.2.2.2.2.1,aD i.2.2.2.2.2.2.2.2.2.2 3 tI i.2.2.2.2.2.2.2.1]) ?_ ?_
 revert H;refine I5z (fun c1 H=>?_) fun c1 H=>?_
 revert H;refine I5z (fun c2 H=>?_) fun c2 H=>?_
 revert H;refine I6z (fun c3 H=>?_) fun c3 H=>?_
 revert H;refine I6z (fun c4 H=>?_) fun c4 H=>?_
 revert H;refine I6z (fun c5 H=>?_) fun c5 H=>?_
 refine Z3 ?_
 refine gK tI 3 ?_
 refine gK tI 3 ?_
 refine bA ?_
 refine tF (ψs:=[fI (((⟨a0,[],[],(aE.none:aE Int AM),[]⟩:AV).AC).AF),fSl aB (((⟨a0,[],[],(aE.none:aE Int AM),[]⟩:AV).AC).AE),fSl aP (((⟨a0,[],[],(aE.none:aE Int AM),[]⟩:AV).AC).Code),fI (((⟨a0,[],[],(aE.none:aE Int AM),[]⟩:AV).AC).AG),fSl tI ((⟨a0,[],[],(aE.none:aE Int AM),[]⟩:AV).Ae),fEq (.slice none 0 0),fEq (.map (some b4)),fEq (.slice none 0 0)]) (aJ.cons Ent.rfl (aJ.cons Ent.rfl (aJ.cons Ent.rfl (aJ.cons Ent.rfl (aJ.cons fF (aJ.cons Ent.rfl (aJ.cons Ent.rfl (aJ.cons Ent.rfl aJ.nil)))))))) ?_
 refine aO ?_
 refine bH ?_
 refine aM ?_
 refine aW ?_
 refine bA ?_
 refine bA ?_
 refine dP ?_
 revert H;refine bs fun y1 h1 H=>?_
 refine Tc (wJ _ _ _ _ h1) ?_
 refine dW (fun v3 v4 v5=>?_)
 refine aM ?_
 refine bP (fun b7 h2=>?_);subst h2
 refine rc 2 fun _=>?_
 refine rc 3 fun _=>?_
 revert H;refine B1z fun y2 h3 H=>?_
 rcases y2 with y2 | pv1 <;> dsimp only at H
 refine Tc (aY _ _ h3).s ?_
 refine Z1 ?_
 refine aF [1,4,5,6,0,2,3] (by decide) ?_
 exact Tm ((y1.1.AC.AF,y1.1.AC.AE,y1.1.AC.Code,y1.1.AC.AG,y1.1.Ae,y1.1.last,y1.1.AR,y1.1.Ad,v3,b7,v5)) (ij H)
 refine Tp (aY _ _ h3).pan ?_
 revert H;refine B1z fun r1 H e1=>?_
 cases e1;cases Hr1
 have H0:=H;clear H;obtain⟨e2,h4,H⟩:=bind_some H0;clear H0;have hv_e2:=kG h4;subst hv_e2
 cases H
 refine aF [4,5] (by decide) ?_
 exact jW (jV (vs:=[ptr b2,ptr b3]) (u:= .panicking [{ v:= .iface 163 (.agg #[]),recovered:=false }]) (by simp) (cb rfl) (kH _ _ _ _) rfl (jY rfl rfl rfl (sc rfl) (sc rfl) kN Ent.rfl))
 revert H;refine B5z fun y3 h5 H=>?_
 rcases y3 with y3 | pv2 <;> dsimp only at H
 refine Tc (aY _ _ h5).s ?_
 refine Z1 ?_
 refine gK tI 3 ?_
 refine gK tI 3 ?_
 refine bA ?_
 refine tF (ψs:=[fI a0.AF,fSl aB a0.AE,fSl aP a0.Code,fI a0.AG,fSl tI [],fEq (.slice none 0 0),fEq (.map (some b4)),fEq (.slice none 0 0)]) (aJ.cons Ent.rfl (aJ.cons Ent.rfl (aJ.cons Ent.rfl (aJ.cons Ent.rfl (aJ.cons fF (aJ.cons Ent.rfl (aJ.cons Ent.rfl (aJ.cons Ent.rfl aJ.nil)))))))) ?_
 refine aF [0,3,5,6,4,2,1] (by decide) ?_
 exact Tm ((a0.AF,a0.AE,a0.Code,a0.AG,[],[],(aE.none:aE Int AM),[],(.slice none 0 0),b4,(.slice none 0 0))) (ij H)
 refine Tp (aY _ _ h5).pan ?_
 revert H;refine B1z fun r2 H e3=>?_
 cases e3;cases Hr1
 have H0:=H;clear H;obtain⟨e4,h6,H⟩:=bind_some H0;clear H0;have hv_e4:=kG h6;subst hv_e4
 cases H
 refine aF [0,3] (by decide) ?_
 exact jW (jV (vs:=[ptr b2,ptr b3]) (u:= .panicking [{ v:= .iface 163 (.agg #[]),recovered:=false }]) (by simp) (cb rfl) (kH _ _ _ _) rfl (jY rfl rfl rfl (sc rfl) (sc rfl) kN Ent.rfl))
 revert H;refine jR fun y4 h7 H=>?_
 rcases y4 with y4 | pv3 <;> dsimp only at H
 refine Tc (aY _ _ h7).s ?_
 refine Z1 ?_
 refine gK tI 3 ?_
 refine gK tI 3 ?_
 refine bA ?_
 refine tF (ψs:=[fI a0.AF,fSl aB a0.AE,fSl aP a0.Code,fI a0.AG,fSl tI [],fEq (.slice none 0 0),fEq (.map (some b4)),fEq (.slice none 0 0)]) (aJ.cons Ent.rfl (aJ.cons Ent.rfl (aJ.cons Ent.rfl (aJ.cons Ent.rfl (aJ.cons fF (aJ.cons Ent.rfl (aJ.cons Ent.rfl (aJ.cons Ent.rfl aJ.nil)))))))) ?_
 refine aF [0,3,5,6,4,2,1] (by decide) ?_
 exact Tm ((a0.AF,a0.AE,a0.Code,a0.AG,[],[],(aE.none:aE Int AM),[],(.slice none 0 0),b4,(.slice none 0 0))) (ij H)
 refine Tp (aY _ _ h7).pan ?_
 revert H;refine B1z fun r3 H e5=>?_
 cases e5;cases Hr1
 have H0:=H;clear H;obtain⟨e6,h8,H⟩:=bind_some H0;clear H0;have hv_e6:=kG h8;subst hv_e6
 cases H
 refine aF [0,3] (by decide) ?_
 exact jW (jV (vs:=[ptr b2,ptr b3]) (u:= .panicking [{ v:= .iface 163 (.agg #[]),recovered:=false }]) (by simp) (cb rfl) (kH _ _ _ _) rfl (jY rfl rfl rfl (sc rfl) (sc rfl) kN Ent.rfl))
 refine Z12 ?_
 revert H;refine B5z fun y5 h9 H=>?_
 rcases y5 with y5 | pv4 <;> dsimp only at H
 refine Tc (aY _ _ h9).s ?_
 refine Z1 ?_
 refine gK tI 3 ?_
 refine gK tI 3 ?_
 refine bA ?_
 refine tF (ψs:=[fI a0.AF,fSl aB a0.AE,fSl aP a0.Code,fI a0.AG,fSl tI [],fEq (.slice none 0 0),fEq (.map (some b4)),fEq (.slice none 0 0)]) (aJ.cons Ent.rfl (aJ.cons Ent.rfl (aJ.cons Ent.rfl (aJ.cons Ent.rfl (aJ.cons fF (aJ.cons Ent.rfl (aJ.cons Ent.rfl (aJ.cons Ent.rfl aJ.nil)))))))) ?_
 refine aF [0,3,5,6,4,2,1] (by decide) ?_
 exact Tm ((a0.AF,a0.AE,a0.Code,a0.AG,[],[],(aE.none:aE Int AM),[],(.slice none 0 0),b4,(.slice none 0 0))) (ij H)
 refine Tp (aY _ _ h9).pan ?_
 revert H;refine B1z fun r4 H e7=>?_
 cases e7;cases Hr1
 have H0:=H;clear H;obtain⟨e8,h10,H⟩:=bind_some H0;clear H0;have hv_e8:=kG h10;subst hv_e8
 cases H
 refine aF [0,3] (by decide) ?_
 exact jW (jV (vs:=[ptr b2,ptr b3]) (u:= .panicking [{ v:= .iface 163 (.agg #[]),recovered:=false }]) (by simp) (cb rfl) (kH _ _ _ _) rfl (jY rfl rfl rfl (sc rfl) (sc rfl) kN Ent.rfl))
 refine Z12 ?_
 revert H;refine jR fun y6 h11 H=>?_
 rcases y6 with y6 | pv5 <;> dsimp only at H
 refine Tc (aY _ _ h11).s ?_
 refine Z1 ?_
 refine gK tI 3 ?_
 refine gK tI 3 ?_
 refine bA ?_
 refine tF (ψs:=[fI a0.AF,fSl aB a0.AE,fSl aP a0.Code,fI a0.AG,fSl tI [],fEq (.slice none 0 0),fEq (.map (some b4)),fEq (.slice none 0 0)]) (aJ.cons Ent.rfl (aJ.cons Ent.rfl (aJ.cons Ent.rfl (aJ.cons Ent.rfl (aJ.cons fF (aJ.cons Ent.rfl (aJ.cons Ent.rfl (aJ.cons Ent.rfl aJ.nil)))))))) ?_
 refine aF [0,3,5,6,4,2,1] (by decide) ?_
 exact Tm ((a0.AF,a0.AE,a0.Code,a0.AG,[],[],(aE.none:aE Int AM),[],(.slice none 0 0),b4,(.slice none 0 0))) (ij H)
 refine Tp (aY _ _ h11).pan ?_
 revert H;refine B1z fun r5 H e9=>?_
 cases e9;cases Hr1
 have H0:=H;clear H;obtain⟨e10,h12,H⟩:=bind_some H0;clear H0;have hv_e10:=kG h12;subst hv_e10
 cases H
 refine aF [0,3] (by decide) ?_
 exact jW (jV (vs:=[ptr b2,ptr b3]) (u:= .panicking [{ v:= .iface 163 (.agg #[]),recovered:=false }]) (by simp) (cb rfl) (kH _ _ _ _) rfl (jY rfl rfl rfl (sc rfl) (sc rfl) kN Ent.rfl))
 refine Z12 ?_
 refine Z12 ?_
 revert H;refine B4z fun y7 h13 H=>?_
 rcases y7 with y7 | pv6 <;> dsimp only at H
 refine Tc (aY _ _ h13).s ?_
 refine Z1 ?_
 refine gK tI 3 ?_
 refine gK tI 3 ?_
 refine bA ?_
 refine tF (ψs:=[fI a0.AF,fSl aB a0.AE,fSl aP a0.Code,fI a0.AG,fSl tI [],fEq (.slice none 0 0),fEq (.map (some b4)),fEq (.slice none 0 0)]) (aJ.cons Ent.rfl (aJ.cons Ent.rfl (aJ.cons Ent.rfl (aJ.cons Ent.rfl (aJ.cons fF (aJ.cons Ent.rfl (aJ.cons Ent.rfl (aJ.cons Ent.rfl aJ.nil)))))))) ?_
 refine aF [0,3,5,6,4,2,1] (by decide) ?_
 exact Tm ((a0.AF,a0.AE,a0.Code,a0.AG,[],[],(aE.none:aE Int AM),[],(.slice none 0 0),b4,(.slice none 0 0))) (ij H)
 refine Tp (aY _ _ h13).pan ?_
 revert H;refine B1z fun r6 H e11=>?_
 cases e11;cases Hr1
 have H0:=H;clear H;obtain⟨e12,h14,H⟩:=bind_some H0;clear H0;have hv_e12:=kG h14;subst hv_e12
 cases H
 refine aF [0,3] (by decide) ?_
 exact jW (jV (vs:=[ptr b2,ptr b3]) (u:= .panicking [{ v:= .iface 163 (.agg #[]),recovered:=false }]) (by simp) (cb rfl) (kH _ _ _ _) rfl (jY rfl rfl rfl (sc rfl) (sc rfl) kN Ent.rfl))
 rintro⟨x1,x2,x3,x4,x5,x6,x7,x8,v1,b6,v2⟩ hi;subst o1;replace H:=Hr1;clear Hr1;try dsimp only at H ⊢
 refine rc 5 fun _=>?_
 refine rc 6 fun _=>?_
 revert H;refine bs fun o2 H Hr2=>?_
 refine aQ (ι:=Int × List AN × List AI × Int × List Int × List Int × aE Int AM × List Int × Value × Nat × Value) (fun i=>o2=Sum.inl (i.1,i.2.1,i.2.2.1,i.2.2.2.1,i.2.2.2.2.1,i.2.2.2.2.2.1,i.2.2.2.2.2.2.1,i.2.2.2.2.2.2.2.1)) (fun i=>[(1,fEq (ptr b1)),(2,fEq (ptr b2)),(3,fEq (ptr b3))]) (fun i=>[aA b5 90 [fI i.1,fSl aB i.2.1,fSl aP i.2.2.1,fI i.2.2.2.1,fSl tI i.2.2.2.2.1,fEq i.2.2.2.2.2.2.2.2.1,fEq (.map (some i.2.2.2.2.2.2.2.2.2.1)),fEq i.2.2.2.2.2.2.2.2.2.2],aA b2 85 [fEq (ptr b5)],aA b3 4 [aH false],aA b1 25 [fI a0.AF,fSl aB a0.AE,fSl aP a0.Code,fI a0.AG],bE aZ (fun y=>fSt bZ y) i.2.2.2.2.2.2.2.2.2.1 i.2.2.2.2.2.2.1,aD i.2.2.2.2.2.2.2.2.1 3 tI i.2.2.2.2.2.1,aD i.2.2.2.2.2.2.2.2.2.2 3 tI i.2.2.2.2.2.2.2.1]) ?_ ?_
 refine Z7 ?_
 refine Th (ι:=Int × Int × List AN × List AI × Int × List Int × List Int × aE Int AM × List Int × Value × Nat × Value) (fun i=>sS AA a0 i.1 i.2.1 i.2.2.1 i.2.2.2.1 i.2.2.2.2.1 i.2.2.2.2.2.1 i.2.2.2.2.2.2.1 i.2.2.2.2.2.2.2.1 i.2.2.2.2.2.2.2.2.1 i.2.2.2.2.2.2.2.2.2.1=_) (fun i=>[(1,fEq (ptr b1)),(2,fEq (ptr b2)),(3,fEq (ptr b3)),(46,fSl aB a0.AE),(47,fI (a0.AE.length:Int)),(48,fI i.2.1)]) (fun i=>[aA b5 90 [fI i.2.2.1,fSl aB i.2.2.2.1,fSl aP i.2.2.2.2.1,fI i.2.2.2.2.2.1,fSl tI i.2.2.2.2.2.2.1,fEq i.2.2.2.2.2.2.2.2.2.2.1,fEq (.map (some i.2.2.2.2.2.2.2.2.2.2.2.1)),fEq i.2.2.2.2.2.2.2.2.2.2.2.2],aA b2 85 [fEq (ptr b5)],aA b3 4 [aH false],aA b1 25 [fI a0.AF,fSl aB a0.AE,fSl aP a0.Code,fI a0.AG],bE aZ (fun y=>fSt bZ y) i.2.2.2.2.2.2.2.2.2.2.2.1 i.2.2.2.2.2.2.2.2.1,aD i.2.2.2.2.2.2.2.2.2.2.1 3 tI i.2.2.2.2.2.2.2.1,aD i.2.2.2.2.2.2.2.2.2.2.2.2 3 tI i.2.2.2.2.2.2.2.2.2.1]) (AA,0,x1,x2,x3,x4,x5,x6,x7,x8,v1,b6,v2) H (fun _ h=>nomatch h) ?_
 clear H;rintro k1 ⟨x26,x27,x28,x29,x30,x31,x32,x33,x34,v10,b10,v11⟩ H;dsimp only at H ⊢;rw [sS]at H
 refine rc 5 fun _=>?_
 refine rc 6 fun _=>?_
 refine Z3 ?_
 refine aL ?_
 revert H;refine is (fun c6 H=>?_) fun c6 H=>?_
 refine Z3 ?_
 refine aL ?_
 revert H;refine B2z fun y8 h15 H=>?_
 refine Z2 ?_
 refine Tn (cF rfl qN rfl) fun b11=>?_
 refine cM (φs':=[fSl bC y8.AQ,fSl bD y8.AP,fSl bB y8.AO]) a1W rfl rfl (has rfl) (has rfl) (aI (bR) (aI (bR) (aI (bR) bM))) (sz rfl) rfl rfl rfl ?_
 refine Z4 ?_
 refine gD ?_
 refine bH ?_
 refine T_fr7 ?_
 refine aW ?_
 refine T_fr7 ?_
 refine aO ?_
 refine dP ?_
 revert H;refine bs fun y9 h16 H=>?_
 rcases y9 with y9 | pv7 <;> dsimp only at H
 refine Tc (aGw _ _ _ _ _ h16).s ?_
 refine dW (fun v12 v13 v14=>?_)
 refine aM ?_
 refine bP (fun b12 h17=>?_);subst h17
 refine rc 2 fun _=>?_
 refine rc 3 fun _=>?_
 revert H;refine B4z fun z1 h18 H=>?_
 refine Z3 ?_
 refine aF [1,5,6,7,0,2,3] (by decide) ?_
 exact Tm ((k1,z1,y9.AC.AF,y9.AC.AE,y9.AC.Code,y9.AC.AG,y9.Ae,y9.last,y9.AR,y9.Ad,v12,b12,v14)) ⟨H,ls⟩
 refine Tp (aGw _ _ _ _ _ h16).pan ?_
 revert H;refine B5z fun r7 H e13=>?_
 cases e13;cases Hr2
 have H0:=H;clear H;obtain⟨e14,h19,H⟩:=bind_some H0;clear H0;have hv_e14:=kG h19;subst hv_e14
 cases H
 refine aF [1,2] (by decide) ?_
 exact jW (jV (vs:=[ptr b2,ptr b3]) (u:= .panicking [{ v:= .iface 163 (.agg #[]),recovered:=false }]) (by simp) (cb rfl) (kH _ _ _ _) rfl (jY rfl rfl rfl (sc rfl) (sc rfl) kN Ent.rfl))
 refine Z6 ?_
 exact Tm ((x27,x28,x29,x30,x31,x32,x33,x34,v10,b10,v11)) (ij H)
 rintro⟨x9,x10,x11,x12,x13,x14,x15,x16,v6,b8,v7⟩ hi;subst o2;replace H:=Hr2;clear Hr2;try dsimp only at H ⊢
 refine rc 5 fun _=>?_
 refine rc 6 fun _=>?_
 refine Z2 ?_
 refine aO ?_
 refine bH ?_
 refine iQ ?_
 refine aW ?_
 refine iQ ?_
 refine bA ?_
 refine dP ?_
 refine bz H fun y10 h20 H=>?_
 rcases y10 with y10 | pv8 <;> dsimp only at H
 refine Tc (aGY _ _ _ _ h20).s ?_
 refine dW (fun v15 v16 v17=>?_)
 refine aM ?_
 refine bP (fun b13 h21=>?_);subst h21
 refine rc 2 fun _=>?_
 refine rc 3 fun _=>?_
 refine Z3 ?_
 refine bH ?_
 refine bA ?_
 refine aW ?_
 refine bA ?_
 refine bA ?_
 refine dP ?_
 refine bz H fun y11 h22 H=>?_
 rcases y11 with y11 | pv9 <;> dsimp only at H
 refine Tc (aGB _ _ _ _ h22).s ?_
 refine dW (fun v18 v19 v20=>?_)
 refine aM ?_
 refine bP (fun b14 h23=>?_);subst h23
 refine rc 2 fun _=>?_
 refine rc 3 fun _=>?_
 refine Z7 ?_
 refine Yy (fK (ψs:=[fI 0,fI a0.AF]) rfl zJ rfl (bL.cons (has rfl) (cI (aG a1W)) bL.nil) rfl) ?_
 refine bH ?_
 refine bA ?_
 refine aW ?_
 refine bA ?_
 refine bA ?_
 refine dP ?_
 refine bz H fun y12 h24 H=>?_
 rcases y12 with y12 | pv10 <;> dsimp only at H
 refine Tc (jG _ _ _ _ _ h24).s ?_
 refine dW (fun v21 v22 v23=>?_)
 refine aM ?_
 refine bP (fun b15 h25=>?_);subst h25
 refine rc 2 fun _=>?_
 refine rc 3 fun _=>?_
 revert H;refine B1z fun o3 H Hr3=>?_
 refine aQ (ι:=Int × List AN × List AI × Int × List Int × List Int × aE Int AM × List Int × Value × Nat × Value) (fun i=>o3=Sum.inl (i.1,i.2.1,i.2.2.1,i.2.2.2.1,i.2.2.2.2.1,i.2.2.2.2.2.1,i.2.2.2.2.2.2.1,i.2.2.2.2.2.2.2.1)) (fun i=>[(1,fEq (ptr b1)),(2,fEq (ptr b2)),(3,fEq (ptr b3))]) (fun i=>[aA b5 90 [fI i.1,fSl aB i.2.1,fSl aP i.2.2.1,fI i.2.2.2.1,fSl tI i.2.2.2.2.1,fEq i.2.2.2.2.2.2.2.2.1,fEq (.map (some i.2.2.2.2.2.2.2.2.2.1)),fEq i.2.2.2.2.2.2.2.2.2.2],aA b2 85 [fEq (ptr b5)],aA b3 4 [aH false],aA b1 25 [fI a0.AF,fSl aB a0.AE,fSl aP a0.Code,fI a0.AG],bE aZ (fun y=>fSt bZ y) i.2.2.2.2.2.2.2.2.2.1 i.2.2.2.2.2.2.1,aD i.2.2.2.2.2.2.2.2.1 3 tI i.2.2.2.2.2.1,aD i.2.2.2.2.2.2.2.2.2.2 3 tI i.2.2.2.2.2.2.2.1]) ?_ ?_
 refine Z1 ?_
 refine aF [1,4,5,6,0,2,3] (by decide) ?_
 refine Th (ι:=Int × List AN × List AI × Int × List Int × List Int × aE Int AM × List Int × Value × Nat × Value) (fun i=>lV AA i.1 i.2.1 i.2.2.1 i.2.2.2.1 i.2.2.2.2.1 i.2.2.2.2.2.1 i.2.2.2.2.2.2.1 i.2.2.2.2.2.2.2.1 i.2.2.2.2.2.2.2.2.1=_) (fun i=>[(1,fEq (ptr b1)),(2,fEq (ptr b2)),(3,fEq (ptr b3))]) (fun i=>[aA b5 90 [fI i.2.1,fSl aB i.2.2.1,fSl aP i.2.2.2.1,fI i.2.2.2.2.1,fSl tI i.2.2.2.2.2.1,fEq i.2.2.2.2.2.2.2.2.2.1,fEq (.map (some i.2.2.2.2.2.2.2.2.2.2.1)),fEq i.2.2.2.2.2.2.2.2.2.2.2],aA b2 85 [fEq (ptr b5)],aA b3 4 [aH false],aA b1 25 [fI a0.AF,fSl aB a0.AE,fSl aP a0.Code,fI a0.AG],bE aZ (fun y=>fSt bZ y) i.2.2.2.2.2.2.2.2.2.2.1 i.2.2.2.2.2.2.2.1,aD i.2.2.2.2.2.2.2.2.2.1 3 tI i.2.2.2.2.2.2.1,aD i.2.2.2.2.2.2.2.2.2.2.2 3 tI i.2.2.2.2.2.2.2.2.1]) (AA,y12.AC.AF,y12.AC.AE,y12.AC.Code,y12.AC.AG,y12.Ae,y12.last,y12.AR,y12.Ad,v21,b15,v23) H (fun _ h=>nomatch h) ?_
 clear H;rintro k2 ⟨x51,x52,x53,x54,x55,x56,x57,x58,v28,b18,v29⟩ H;dsimp only at H ⊢;rw [lV]at H
 refine rc 5 fun _=>?_
 refine rc 6 fun _=>?_
 refine aL ?_
 revert H;refine I8z (fun c7 H=>?_) fun c7 H=>?_
 refine Z4 ?_
 refine aL ?_
 revert H;refine bs fun z2 h26 H=>?_
 revert H;refine bs fun y13 h27 H=>?_
 apply bG (ods:=[_,_,_,_,_,_,_,_,_,_,_,_,_]) 13 0 7 bF rfl rfl rfl
 refine ND ?_
 refine M8 ?_
 intros
 refine M3 ?_
 intros
 refine Mo 6 rfl (jE rfl rfl hh (sc rfl) (idx_get h27) rfl) fun _=>?_
 refine M1 ?_
 intros
 refine Z2 ?_
 refine aL ?_
 revert H;refine bs fun z3 h28 H=>?_
 revert H;refine bs fun y14 h29 H=>?_
 apply bG (ods:=[_,_,_,_,_,_,_,_,_,_,_,_,_,_]) 14 0 7 bF rfl rfl rfl
 refine ND ?_
 refine M8 ?_
 intros
 refine M3 ?_
 intros
 refine Mo 6 rfl (o_sliceC rfl hh hh (el rfl) h29) fun _=>?_
 refine M2 ?_
 intros
 refine Z1 ?_
 refine iQ ?_
 refine T_cut 96 rfl h29 (fun v30=>?_)
 refine rc 0 fun hc_v30=>?_
 refine aW ?_
 refine cQ (φs':=[fI x51,fSl aB x52,fSl aP x53,fI x54,fSl tI x55,fEq v28,fEq (.map (some b18)),fEq v30]) a1W rfl rfl (has rfl) (has rfl) (aG hc_v30) (sz rfl) rfl rfl ?_
 refine Z4 ?_
 refine gD ?_
 refine bH ?_
 refine aM ?_
 refine aW ?_
 refine iQ ?_
 refine bA ?_
 refine dP ?_
 revert H;refine bs fun y15 h30 H=>?_
 rcases y15 with y15 | pv11 <;> dsimp only at H
 refine Tc (aD3 _ _ _ _ _ h30).s ?_
 refine dW (fun v31 v32 v33=>?_)
 refine aM ?_
 refine bP (fun b19 h31=>?_);subst h31
 refine rc 2 fun _=>?_
 refine rc 3 fun _=>?_
 refine Z3 ?_
 refine aF [1,4,5,6,0,2,3] (by decide) ?_
 exact Tm ((k2,y15.AC.AF,y15.AC.AE,y15.AC.Code,y15.AC.AG,y15.Ae,y15.last,y15.AR,y15.Ad,v31,b19,v33)) ⟨H,ls⟩
 refine Tp (aD3 _ _ _ _ _ h30).pan ?_
 revert H;refine B4z fun r8 H e15=>?_
 cases e15;cases Hr3
 have H0:=H;clear H;obtain⟨e16,h32,H⟩:=bind_some H0;clear H0;have hv_e16:=kG h32;subst hv_e16
 cases H
 refine aF [0,1] (by decide) ?_
 exact jW (jV (vs:=[ptr b2,ptr b3]) (u:= .panicking [{ v:= .iface 163 (.agg #[]),recovered:=false }]) (by simp) (cb rfl) (kH _ _ _ _) rfl (jY rfl rfl rfl (sc rfl) (sc rfl) kN Ent.rfl))
 exact fk
 kernel_rfl
 exact fk
 kernel_rfl
 refine Z6 ?_
 exact Tm ((x51,x52,x53,x54,x55,x56,x57,x58,v28,b18,v29)) (ij H)
 rintro⟨x35,x36,x37,x38,x39,x40,x41,x42,v24,b16,v25⟩ hi;subst o3;replace H:=Hr3;clear Hr3;try dsimp only at H ⊢
 refine rc 5 fun _=>?_
 refine rc 6 fun _=>?_
 refine aL ?_
 apply bG (ods:=[_,_,_,_,_,_,_,_,_]) 9 0 7 bF rfl rfl rfl
 refine ND ?_
 refine M4 ?_
 intros
 refine Mo 4 rfl (aBm rfl hh aAC) fun _=>?_
 refine M4 ?_
 intros
 refine B1 H fun y16 h33 H=>?_
 rcases y16 with y16 | pv12 <;> dsimp only at H
 refine Tc (aY _ _ h33).s ?_
 refine Z3 ?_
 refine aW ?_
 refine cQ (φs':=[fEq (ptr b5)]) a1W rfl rfl (has rfl) (has rfl) (aG a1W) (sz rfl) rfl rfl ?_
 refine aM ?_
 refine cQ (φs':=[aH true]) a1W rfl rfl (has rfl) (has rfl) (aG a1W) (sz rfl) rfl rfl ?_
 refine Z2 ?_
 refine gD ?_
 refine dI (φ:=fSl tI x40) (v:=v24) [] eT (fun _ h=>nomatch h) ?_
 refine bA ?_
 refine aW ?_
 refine fP (φs':=[fI x35,fSl aB x36,fSl aP x37,fI x38,fSl tI x39,fSl tI x40,fEq (.map (some b16)),fEq v25]) (i:=5) rfl rfl ?_
 refine dH ?_
 refine aO ?_
 refine dI (φ:=fMap aZ (fun y=>fSt bZ y) x41) (v:= .map (some b16)) [105] aGW fz ?_
 refine fP (φs':=[fI x35,fSl aB x36,fSl aP x37,fI x38,fSl tI x39,fSl tI x40,fMap aZ (fun y=>fSt bZ y) x41,fEq v25]) (i:=6) rfl rfl ?_
 refine dH ?_
 refine aO ?_
 refine dI (φ:=fSl tI x42) (v:=v25) [] eT (fun _ h=>nomatch h) ?_
 refine fP (φs':=[fI x35,fSl aB x36,fSl aP x37,fI x38,fSl tI x39,fSl tI x40,fMap aZ (fun y=>fSt bZ y) x41,fSl tI x42]) (i:=7) rfl rfl ?_
 refine dH ?_
 refine dI (φ:=aU aCM (⟨(⟨x35,x36,x37,x38⟩:AC),x39,x40,x41,x42⟩:AV)) (v:=ptr b5) [102,103,112] (iH aJ.rfl) fz ?_
 refine aM ?_
 refine aW ?_
 refine fP (φs':=[aU aCM (⟨(⟨x35,x36,x37,x38⟩:AC),x39,x40,x41,x42⟩:AV)]) (i:=0) rfl rfl ?_
 refine dH ?_
 cases H
 refine aF [0,1] (by decide) ?_
 exact aDB (jV (vs:=[ptr b2,ptr b3]) (u:= .returning) (by simp) (cb rfl) (aJz _ _ _ _) rfl (jY rfl rfl rfl (sc rfl) (sc rfl) ent_optS Ent.rfl))
 refine Tp (aY _ _ h33).pan ?_
 refine Z1 ?_
 have H0:=H;clear H;obtain⟨e17,h34,H⟩:=bind_some H0;clear H0;have hv_e17:=kG h34;subst hv_e17
 cases H
 refine aF [1,2] (by decide) ?_
 exact jW (jV (vs:=[ptr b2,ptr b3]) (u:= .panicking [{ v:= .iface 163 (.agg #[]),recovered:=false }]) (by simp) (cb rfl) (kH _ _ _ _) rfl (jY rfl rfl rfl (sc rfl) (sc rfl) kN Ent.rfl))
 exact fk
 kernel_rfl
 refine Tp (jG _ _ _ _ _ h24).pan ?_
 refine Z1 ?_
 have H0:=H;clear H;obtain⟨e18,h35,H⟩:=bind_some H0;clear H0;have hv_e18:=kG h35;subst hv_e18
 cases H
 refine aF [0,1] (by decide) ?_
 exact jW (jV (vs:=[ptr b2,ptr b3]) (u:= .panicking [{ v:= .iface 163 (.agg #[]),recovered:=false }]) (by simp) (cb rfl) (kH _ _ _ _) rfl (jY rfl rfl rfl (sc rfl) (sc rfl) kN Ent.rfl))
 refine Tp (aGB _ _ _ _ h22).pan ?_
 refine Z1 ?_
 have H0:=H;clear H;obtain⟨e19,h36,H⟩:=bind_some H0;clear H0;have hv_e19:=kG h36;subst hv_e19
 cases H
 refine aF [0,1] (by decide) ?_
 exact jW (jV (vs:=[ptr b2,ptr b3]) (u:= .panicking [{ v:= .iface 163 (.agg #[]),recovered:=false }]) (by simp) (cb rfl) (kH _ _ _ _) rfl (jY rfl rfl rfl (sc rfl) (sc rfl) kN Ent.rfl))
 refine Tp (aGY _ _ _ _ h20).pan ?_
 refine Z1 ?_
 have H0:=H;clear H;obtain⟨e20,h37,H⟩:=bind_some H0;clear H0;have hv_e20:=kG h37;subst hv_e20
 cases H
 refine aF [0,1] (by decide) ?_
 exact jW (jV (vs:=[ptr b2,ptr b3]) (u:= .panicking [{ v:= .iface 163 (.agg #[]),recovered:=false }]) (by simp) (cb rfl) (kH _ _ _ _) rfl (jY rfl rfl rfl (sc rfl) (sc rfl) kN Ent.rfl))
def aE6 (a0:List Int) (a1:Int):Nat->Int->Option ((Unit) ⊕ (Bool))
| 0,_=>none
| k+1,x2=>
 if x2<(a0.length:Int)then
  (idx a0 x2).bind fun y1=>
  if y1=a1 then
   (some true).bind fun r=>some (Sum.inr r)
  else
   (chk (x2+1)).bind fun z1=>
   aE6 a0 a1 k z1
 else
  some (Sum.inl ())
def r09_has_S (AA:Nat) (a0:List Int) (a1:Int):Option (Bool):=
 (aE6 a0 a1 AA 0).bind fun o=>match o with
 | Sum.inr r=>some r
 | Sum.inl _=>
 some false
open Go.SX Go.SW Go.Dt
def aK9 (a0:AN):Nat->Int->Option ((Unit) ⊕ (Bool))
| 0,_=>none
| k+1,x2=>
 if x2<(a0.AQ.length:Int)then
  (idx a0.AQ x2).bind fun y2=>
  if y2.At<0 then
   (some false).bind fun r=>some (Sum.inr r)
  else
   (idx a0.AQ x2).bind fun y3=>
   if (a0.AP.length:Int)<y3.At then
    (some false).bind fun r=>some (Sum.inr r)
   else
    (idx a0.AQ x2).bind fun y4=>
    if y4.Au<0 then
     (some false).bind fun r=>some (Sum.inr r)
    else
     (idx a0.AQ x2).bind fun y5=>
     if 3<y5.Au then
      (some false).bind fun r=>some (Sum.inr r)
     else
      (chk (x2+1)).bind fun z1=>
      aK9 a0 k z1
 else
  some (Sum.inl ())
end Go.Proofs.YtjahnkcjbglnoaaGreatDoor

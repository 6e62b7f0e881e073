/- Parts of the proof: lemmas, and the steps through the program. -/
import Derived.Test.YtpbeacokfapklaaGreatDoorCb3
set_option linter.unusedVariables false
set_option linter.unusedSimpArgs false
set_option maxRecDepth 100000
set_option maxHeartbeats 2000000
namespace Go.Proofs.YtpbeacokfapklaaGreatDoor
open Go.SX Go.SW Go.Dt
attribute [local irreducible] Code.wpIn wpListIn Exit.then Exit.inBlock
def rG (a0:AB):Nat->Int->(List AJ)->Option (List AJ)
| 0,_,_=>none
| k+1,x4,x5=>
 if x4<(a0.Code.length:Int)then
  (cY (x5++[(⟨(-1),(-1)⟩:AJ)])).bind fun z1=>
  (chk (x4+1)).bind fun z2=>
  rG a0 k z2 z1
 else
  some x5
def jE (AA:Nat) (a0:AB):Nat->(List AJ)->(List Int)->Bool->Option (List AJ × List Int × Bool)
| 0,_,_,_=>none
| k+1,x12,x13,x14=>
 if 0<(x13.length:Int)then
  bif x14 then
   some (x12,x13,x14)
  else
   (chk ((x13.length:Int) - 1)).bind fun z3=>
   (idx x13 z3).bind fun y3=>
   (chk ((x13.length:Int) - 1)).bind fun z4=>
   (slc x13 0 z4).bind fun y4=>
   (nL AA (⟨x12,y4,x14⟩:Ref09_flow) (⟨a0.AH,a0.AD,a0.Code,a0.AG⟩:AB) y3).bind fun y5=>
   jE AA a0 k y5.AK y5.wait y5.wrong
 else
  some (x12,x13,x14)
def nR (x6:List AJ):Nat->Int->Bool->Option (Bool)
| 0,_,_=>none
| k+1,x18,x19=>
 if x18<(x6.length:Int)then
  (bif x19 then
   some true
  else
   (idx x6 x18).bind fun y6=>
   some (decide (y6.AM<0))).bind fun x20=>
  (chk (x18+1)).bind fun z5=>
  nR x6 k z5 x20
 else
  some x19
def oE (AA:Nat) (a0:AB):Option ((List AJ) × Int):=
 (wF AA (⟨a0.AH,a0.AD,a0.Code,a0.AG⟩:AB)).bind fun y1=>
 bif y1 then
  (rG a0 AA 0 []).bind fun x1=>
  (fM (⟨x1,[],false⟩:Ref09_flow) a0.AG 0 a0.AH).bind fun y2=>
  (jE AA a0 AA y2.AK y2.wait y2.wrong).bind fun (x6,x7,x8)=>
  (nR x6 AA 0 x8).bind fun x15=>
  bif x15 then
   some ([],2)
  else
   some (x6,0)
 else
  some ([],2)
theorem aIc (AA:Nat)  (a0:AB) (r:(List AJ) × Int) (H:oE AA a0=some r):FnS Tryz.prog 72 [fSt dX a0] [] (dI [fSl aZ r.1,fI r.2]) (fun _=>[]):=by
 unfold oE at H
 refine bY Tryz.func72 rfl Tryz.ntmps72 rfl (fun β=>?_)
 refine Z1 ?_
 refine Tn (cG rfl hh bW) fun b1=>?_
 refine Z3 ?_
 refine aK ?_
 refine B2 H fun y1 h1 H=>?_
 refine Tc (aGH _ _ _ h1) ?_
 refine Z2 ?_
 refine cz H (fun c1 H=>?_) fun c1 H=>?_
 refine Z4 ?_
 refine Yy (dJ (ψs:=[fEq (.slice none 0 0),fEq (.slice none 0 0),aL false]) rfl aIh rfl bE.nil rfl) ?_
 refine Tn (cG rfl hh bW) fun b2=>?_
 revert H;refine B2z fun o1 H Hr1=>?_
 refine aO (ι:=List AJ × Value) (fun i=>o1=i.1) (fun i=>[(1,fEq (ptr b1)),(4,fEq (ptr b2))]) (fun i=>[aA b2 214 [fEq i.2,fEq (.slice none 0 0),aL false],aA b1 25 [fI a0.AH,fSl aE a0.AD,fSl aF a0.Code,fI a0.AG],aB i.2 59 aZ i.1]) ?_ ?_
 refine Z4 ?_
 refine dQ aZ 59 ?_
 refine aC [1,2,0] (by decide) ?_
 refine Th (ι:=Int × List AJ × Value) (fun i=>rG a0 i.1 i.2.1 i.2.2.1=_) (fun i=>[(1,fEq (ptr b1)),(4,fEq (ptr b2)),(5,fI i.2.1)]) (fun i=>[aA b2 214 [fEq i.2.2.2,fEq (.slice none 0 0),aL false],aA b1 25 [fI a0.AH,fSl aE a0.AD,fSl aF a0.Code,fI a0.AG],aB i.2.2.2 59 aZ i.2.2.1]) (AA,0,[],(.slice none 0 0)) H (fun _ h=>nomatch h) ?_
 clear H;rintro k1 ⟨x4,x5,v3⟩ H;dsimp only at H ⊢;rw [rG]at H
 refine rc 2 fun _=>?_
 refine aK ?_
 revert H;refine I7z (fun c2 H=>?_) fun c2 H=>?_
 refine Z3 ?_
 refine aK ?_
 refine Z7 ?_
 refine Yy (dJ (ψs:=[fI (-1),fI (-1)]) rfl nW rfl (bE.cons (has rfl) (bO (aD a1I)) (bE.cons (has rfl) (bO (aD a1I)) bE.nil)) rfl) ?_
 refine Tn (cE (t:=aZ) (xs:=[(⟨(-1),(-1)⟩:AJ)]) rfl (et rfl) (aX.cons rfl hh bW aX.nil) rfl rfl rfl) fun b3=>?_
 generalize (Value.slice (some ⟨b3,0,none⟩) _ _)=v4
 refine rc 0 fun _=>?_
 revert H;refine bs fun z1 h2 H=>?_
 refine bD ?_
 refine aP ?_
 refine gJ a1I rfl rfl rfl (has rfl) (has rfl) (et rfl) rfl h2 (fun v5=>?_)
 refine rc 0 fun hc_v5=>?_
 refine Z2 ?_
 refine aP ?_
 refine bJ (φs':=[fEq v5,fEq (.slice none 0 0),aL false]) a1I rfl rfl (has rfl) (has rfl) (aD hc_v5) (sz rfl) rfl rfl ?_
 revert H;refine B5z fun z2 h3 H=>?_
 refine Z3 ?_
 refine aC [0,2,1] (by decide) ?_
 exact Tm ((k1,z2,z1,v5)) ⟨H,ls⟩
 refine Z6 ?_
 exact Tm ((x5,v3)) (ij H)
 rintro⟨x1,v1⟩ hi;subst o1;replace H:=Hr1;clear Hr1;try dsimp only at H ⊢
 refine rc 2 fun _=>?_
 refine Z6 ?_
 refine dQ tI 3 ?_
 refine bD ?_
 refine aQ ?_
 refine cH ?_
 refine bz H fun y2 h4 H=>?_
 refine Tc (iK _ _ _ _ _ _ h4) ?_
 refine fE (fun v6 v7=>?_)
 refine rc 1 fun _=>?_
 refine rc 2 fun _=>?_
 revert H;refine B1z fun o2 H Hr2=>?_
 refine aO (ι:=List AJ × List Int × Bool × Value × Value) (fun i=>o2=(i.1,i.2.1,i.2.2.1)) (fun i=>[(4,fEq (ptr b2))]) (fun i=>[aA b2 214 [fEq i.2.2.2.1,fEq i.2.2.2.2,aL i.2.2.1],aA b1 25 [fI a0.AH,fSl aE a0.AD,fSl aF a0.Code,fI a0.AG],aB i.2.2.2.1 59 aZ i.1,aB i.2.2.2.2 3 tI i.2.1]) ?_ ?_
 refine Z1 ?_
 refine aC [0,3,1,2] (by decide) ?_
 refine Th (ι:=List AJ × List Int × Bool × Value × Value) (fun i=>jE AA a0 i.1 i.2.1 i.2.2.1 i.2.2.2.1=_) (fun i=>[(1,fEq (ptr b1)),(4,fEq (ptr b2))]) (fun i=>[aA b2 214 [fEq i.2.2.2.2.1,fEq i.2.2.2.2.2,aL i.2.2.2.1],aA b1 25 [fI a0.AH,fSl aE a0.AD,fSl aF a0.Code,fI a0.AG],aB i.2.2.2.2.1 59 aZ i.2.1,aB i.2.2.2.2.2 3 tI i.2.2.1]) (AA,y2.AK,y2.wait,y2.wrong,v6,v7) H (fun _ h=>nomatch h) ?_
 clear H;rintro k2 ⟨x12,x13,x14,v12,v13⟩ H;dsimp only at H ⊢;rw [jE]at H
 refine rc 2 fun _=>?_
 refine rc 3 fun _=>?_
 refine aK ?_
 revert H;refine I8z (fun c3 H=>?_) fun c3 H=>?_
 refine Z7 ?_
 revert H;refine cs (fun c4 H=>?_) fun c4 H=>?_
 refine Z6 ?_
 exact Tm ((x12,x13,x14,v12,v13)) (ij H)
 refine Z4 ?_
 refine aK ?_
 revert H;refine bs fun z3 h5 H=>?_
 revert H;refine bs fun y3 h6 H=>?_
 apply bQ (ods:=[_,_,_,_,_,_,_,_,_,_,_,_,_]) 13 0 4 bM rfl rfl rfl
 refine ND ?_
 refine M8 ?_
 intros
 refine M1 ?_
 intros
 refine My (xJ rfl hh hh h5) fun _=>?_
 refine M1 ?_
 intros
 refine Mo 3 rfl (kC rfl rfl hh (sc rfl) (dU h6) rfl) fun _=>?_
 refine M1 ?_
 intros
 refine Z2 ?_
 refine aK ?_
 revert H;refine bs fun z4 h7 H=>?_
 revert H;refine bs fun y4 h8 H=>?_
 apply bQ (ods:=[_,_,_,_,_,_,_,_,_,_,_,_,_,_]) 14 0 4 bM rfl rfl rfl
 refine ND ?_
 refine M8 ?_
 intros
 refine M3 ?_
 intros
 refine Mo 3 rfl (aE3 rfl hh hh (el rfl) h8) fun _=>?_
 refine M2 ?_
 intros
 refine Z1 ?_
 refine bD ?_
 refine T_cut 72 rfl h8 (fun v14=>?_)
 refine rc 0 fun hc_v14=>?_
 refine aP ?_
 refine bJ (φs':=[fEq v12,fEq v14,aL x14]) a1I rfl rfl (has rfl) (has rfl) (aD hc_v14) (sz rfl) rfl rfl ?_
 refine Z5 ?_
 refine aP ?_
 refine bD ?_
 refine aQ ?_
 refine cH ?_
 revert H;refine bs fun y5 h9 H=>?_
 refine Tc (aGu _ _ _ _ _ _ h9) ?_
 refine fE (fun v15 v16=>?_)
 refine rc 1 fun _=>?_
 refine rc 2 fun _=>?_
 refine Z3 ?_
 refine aC [0,3,1,2] (by decide) ?_
 exact Tm ((k2,y5.AK,y5.wait,y5.wrong,v15,v16)) ⟨H,ls⟩
 exact fk
 kernel_rfl
 exact fk
 kernel_rfl
 refine Z12 ?_
 refine Z1 ?_
 exact Tm ((x12,x13,x14,v12,v13)) (ij H)
 rintro⟨x6,x7,x8,v8,v9⟩ hi;subst o2;replace H:=Hr2;clear Hr2;try dsimp only at H ⊢
 refine rc 2 fun _=>?_
 refine rc 3 fun _=>?_
 revert H;refine bs fun o3 H Hr3=>?_
 refine aO (fun i=>o3=i) (fun i=>[(4,fEq (ptr b2))]) (fun i=>[aA b2 214 [fEq v8,fEq v9,aL i],aA b1 25 [fI a0.AH,fSl aE a0.AD,fSl aF a0.Code,fI a0.AG],aB v8 59 aZ x6,aB v9 3 tI x7]) ?_ ?_
 refine Z4 ?_
 refine Th (ι:=Int × Bool) (fun i=>nR x6 i.1 i.2.1 i.2.2=_) (fun i=>[(4,fEq (ptr b2)),(7,fI i.2.1)]) (fun i=>[aA b2 214 [fEq v8,fEq v9,aL i.2.2],aA b1 25 [fI a0.AH,fSl aE a0.AD,fSl aF a0.Code,fI a0.AG],aB v8 59 aZ x6,aB v9 3 tI x7]) (AA,0,x8) H (fun _ h=>nomatch h) ?_
 clear H;rintro k3 ⟨x18,x19⟩ H;dsimp only at H ⊢;rw [nR]at H
 refine aK ?_
 revert H;refine I9z (fun c5 H=>?_) fun c5 H=>?_
 revert H;refine B3z fun o4 H Hr4=>?_
 refine aO (fun i=>o4=i) (fun i=>[(4,fEq (ptr b2)),(7,fI x18)]) (fun i=>[aA b2 214 [fEq v8,fEq v9,aL i],aA b1 25 [fI a0.AH,fSl aE a0.AD,fSl aF a0.Code,fI a0.AG],aB v8 59 aZ x6,aB v9 3 tI x7]) ?_ ?_
 refine Z8 ?_
 revert H;refine cs (fun c6 H=>?_) fun c6 H=>?_
 refine Z12 ?_
 refine bJ (φs':=[fEq v8,fEq v9,aL true]) a1I rfl rfl (has rfl) (has rfl) (aD a1I) (sz rfl) rfl rfl ?_
 refine Z3 ?_
 exact Tm (true) (ij H)
 revert H;refine B5z fun y6 h10 H=>?_
 refine Z1 ?_
 refine Yg c6 (aAy 0 rfl hh (fa rfl) rfl) ?_
 refine Yh 2 rfl c6 (kC rfl rfl hh (sc rfl) (dU h10) rfl) ?_
 refine Z4 ?_
 refine bJ (φs':=[fEq v8,fEq v9,aL (decide (y6.AM<0))]) a1I rfl rfl (has rfl) (has rfl) (aD a1I) (sz rfl) rfl rfl ?_
 refine Z3 ?_
 exact Tm (decide (y6.AM<0)) (ij H)
 rintro x20 hi;subst o4;replace H:=Hr4;clear Hr4;try dsimp only at H ⊢
 revert H;refine B2z fun z5 h11 H=>?_
 refine Z3 ?_
 exact Tm ((k3,z5,x20)) ⟨H,ls⟩
 refine Z6 ?_
 exact Tm (x19) (ij H)
 rintro x15 hi;subst o3;replace H:=Hr3;clear Hr3;try dsimp only at H ⊢
 refine aK ?_
 refine Z6 ?_
 refine cz H (fun c7 H=>?_) fun c7 H=>?_
 refine Z6 ?_
 cases H
 refine aC [] (by decide) ?_
 exact qN rfl (hasSE rfl cF) (cM rfl) rfl
 refine Z12 ?_
 refine aQ ?_
 refine cP (φ:=fSl aZ x6) (v:=v8) [113,2] cD fz ?_
 refine eX (φs':=[fSl aZ x6,fEq v9,aL x15]) (i:=0) rfl rfl ?_
 refine cL ?_
 cases H
 refine aC [] (by decide) ?_
 exact qN rfl (cM rfl) (cM rfl) rfl
 refine Z6 ?_
 cases H
 refine aC [] (by decide) ?_
 exact qN rfl (hasSE rfl cF) (cM rfl) rfl
def lZ (AA:Nat) (a0:AB):Option (Int):=
 (oE AA (⟨a0.AH,a0.AD,a0.Code,a0.AG⟩:AB)).bind fun y1=>
 some y1.2
theorem aDE (AA:Nat)  (a0:AB) (r:Int) (H:lZ AA a0=some r):FnS Tryz.prog 31 [fSt dX a0] [] (fI r) (fun _=>[]):=by
 unfold lZ at H
 refine bY Tryz.func31 rfl Tryz.ntmps31 rfl (fun β=>?_)
 refine Z1 ?_
 refine Tn (cG rfl hh bW) fun b1=>?_
 refine B4 H fun y1 h1 H=>?_
 refine Tc (aIc _ _ _ h1) ?_
 refine Z11 ?_
 cases H
 refine aC [] (by decide) ?_
 exact To
def sS  :Nat->(List Int)->Int->Option (List Int × Int)
| 0,_,_=>none
| k+1,x5,x6=>
 if 128<=x6 then
  (jB .i64 x6 128).bind fun z1=>
  (chk (128+z1)).bind fun z2=>
  (cY (x5++[IntKind.wrap .u8 z2])).bind fun z3=>
  (hJ .i64 x6 128).bind fun z4=>
  sS k z3 z4
 else
  some (x5,x6)
def eR (AA:Nat) (a0:List Int) (a1:Int):Option (List Int):=
 (sS AA a0 a1).bind fun (x1,x2)=>
 (cY (x1++[IntKind.wrap .u8 x2])).bind fun z5=>
 some z5
theorem fW (AA:Nat) (p0:Value) (a0:List Int) (a1:Int) (r:List Int) (H:eR AA a0 a1=some r):FnS Tryz.prog 73 [fEq p0,fI a1] [aB p0 5 (aJ .u8) a0] jK (fun v=>[(fun v=>aB v 5 (aJ .u8) r) v]):=by
 unfold eR at H
 refine bY Tryz.func73 rfl Tryz.ntmps73 rfl (fun β=>?_)
 revert H;refine B3z fun o1 H Hr1=>?_
 refine aO (ι:=List Int × Int × Value) (fun i=>o1=(i.1,i.2.1)) (fun i=>[(0,fEq i.2.2),(1,fI i.2.1)]) (fun i=>[aB i.2.2 5 (aJ .u8) i.1]) ?_ ?_
 refine Z1 ?_
 refine Th (ι:=List Int × Int × Value) (fun i=>sS i.1 i.2.1 i.2.2.1=_) (fun i=>[(0,fEq i.2.2.2),(1,fI i.2.2.1)]) (fun i=>[aB i.2.2.2 5 (aJ .u8) i.2.1]) (AA,a0,a1,p0) H (fun _ h=>nomatch h) ?_
 clear H;rintro k1 ⟨x5,x6,v3⟩ H;dsimp only at H ⊢;rw [sS]at H
 refine rc 0 fun _=>?_
 refine aK ?_
 revert H;refine I4z (fun c1 H=>?_) fun c1 H=>?_
 revert H;refine B7z fun z1 h1 H=>?_
 refine Yy (uF rfl hh hh h1) ?_
 revert H;refine bs fun z2 h2 H=>?_
 refine Z1 ?_
 refine Yy (sI rfl hh tX sN) ?_
 refine Tn (cE (t:=(aJ .u8)) (xs:=[IntKind.wrap .u8 z2]) rfl (et rfl) (aX.cons rfl (has rfl) (bO (aD a1I)) aX.nil) rfl rfl rfl) fun b1=>?_
 generalize (Value.slice (some ⟨b1,0,none⟩) _ _)=v4
 refine rc 0 fun _=>?_
 revert H;refine bs fun z3 h3 H=>?_
 refine gJ a1I rfl rfl rfl (has rfl) (has rfl) (et rfl) rfl h3 (fun v5=>?_)
 refine rc 0 fun _=>?_
 revert H;refine B4z fun z4 h4 H=>?_
 refine Yy (rT rfl hh hh h4) ?_
 refine Z4 ?_
 exact Tm ((k1,z3,z4,v5)) ⟨H,ls⟩
 refine Z6 ?_
 exact Tm ((x5,x6,v3)) (ij H)
 rintro⟨x1,x2,v1⟩ hi;subst o1;replace H:=Hr1;clear Hr1;try dsimp only at H ⊢
 refine rc 0 fun _=>?_
 refine Z3 ?_
 refine Yy (sI rfl hh tX sN) ?_
 refine Tn (cE (t:=(aJ .u8)) (xs:=[IntKind.wrap .u8 x2]) rfl (et rfl) (aX.cons rfl (has rfl) (bO (aD a1I)) aX.nil) rfl rfl rfl) fun b2=>?_
 generalize (Value.slice (some ⟨b2,0,none⟩) _ _)=v6
 refine rc 0 fun _=>?_
 refine bz H fun z5 h5 H=>?_
 refine gJ a1I rfl rfl rfl (has rfl) (has rfl) (et rfl) rfl h5 (fun v7=>?_)
 refine rc 0 fun _=>?_
 refine Z3 ?_
 cases H
 exact aAK rfl (cM rfl) (fun _ _ _=>trivial) rfl
def xA (a0:Int):Option (Int):=
 if a0<0 then
  (chk ((-2)*a0)).bind fun z1=>
  (chk (z1 - 1)).bind fun z2=>
  some z2
 else
  (chk (2*a0)).bind fun z3=>
  some z3
theorem aIf  (a0:Int) (r:Int) (H:xA a0=some r):FnS Tryz.prog 74 [fI a0] [] (fI r) (fun _=>[]):=by
 unfold xA at H
 refine bY Tryz.func74 rfl Tryz.ntmps74 rfl (fun β=>?_)
 refine Z3 ?_
 refine aK ?_
 refine I4 H (fun c1 H=>?_) fun c1 H=>?_
 refine B3 H fun z1 h1 H=>?_
 refine B1 H fun z2 h2 H=>?_
 refine Z4 ?_
 cases H
 exact To
 refine B5 H fun z3 h3 H=>?_
 refine Z4 ?_
 cases H
 exact To
open Go.SX Go.SW Go.Dt
def nY (AA:Nat) (y4:AO):Nat->(List Int)->Int->Option (List Int)
| 0,_,_=>none
| k+1,x10,x11=>
 if x11<(y4.AQ.length:Int)then
  (idx y4.AQ x11).bind fun y6=>
  (eR AA x10 y6.At).bind fun y7=>
  (idx y4.AQ x11).bind fun y8=>
  (eR AA y7 y8.Ae).bind fun y9=>
  (chk (x11+1)).bind fun z1=>
  nY AA y4 k y9 z1
 else
  some x10
def mX (AA:Nat) (y4:AO):Nat->(List Int)->Int->Option (List Int)
| 0,_,_=>none
| k+1,x15,x16=>
 if x16<(y4.AN.length:Int)then
  (idx y4.AN x16).bind fun y11=>
  (eR AA x15 y11.In).bind fun y12=>
  (idx y4.AN x16).bind fun y13=>
  (eR AA y12 y13.AV).bind fun y14=>
  (chk (x16+1)).bind fun z2=>
  mX AA y4 k y14 z2
 else
  some x15
def mM (AA:Nat) (y4:AO) (x20:Int):Nat->(List Int)->Int->Option (List Int)
| 0,_,_=>none
| k+1,x24,x25=>
 (idx y4.AP x20).bind fun y22=>
 if x25<(y22.AX.length:Int)then
  (idx y4.AP x20).bind fun y23=>
  (idx y23.AX x25).bind fun y24=>
  (eR AA x24 y24).bind fun y25=>
  (chk (x25+1)).bind fun z3=>
  mM AA y4 x20 k y25 z3
 else
  some x24
def oO (AA:Nat) (y4:AO):Nat->(List Int)->Int->Option (List Int)
| 0,_,_=>none
| k+1,x19,x20=>
 if x20<(y4.AP.length:Int)then
  ((idx y4.AP x20).bind fun y16=>
  (eR AA x19 y16.At).bind fun y17=>
  (idx y4.AP x20).bind fun y18=>
  (eR AA y17 y18.AV).bind fun y19=>
  (idx y4.AP x20).bind fun y20=>
  (eR AA y19 (y20.AX.length:Int)).bind fun y21=>
  mM AA y4 x20 AA y21 0).bind fun x21=>
  (chk (x20+1)).bind fun z4=>
  oO AA y4 k x21 z4
 else
  some x19
def mV (AA:Nat) (a0:AB):Nat->(List Int)->Int->Option (List Int)
| 0,_,_=>none
| k+1,x4,x5=>
 if x5<(a0.AD.length:Int)then
  ((idx a0.AD x5).bind fun y4=>
  (eR AA x4 (y4.AQ.length:Int)).bind fun y5=>
  (nY AA y4 AA y5 0).bind fun x7=>
  (eR AA x7 (y4.AN.length:Int)).bind fun y10=>
  (mX AA y4 AA y10 0).bind fun x12=>
  (eR AA x12 (y4.AP.length:Int)).bind fun y15=>
  oO AA y4 AA y15 0).bind fun x6=>
  (chk (x5+1)).bind fun z5=>
  mV AA a0 k x6 z5
 else
  some x4
def mZ (AA:Nat) (a0:AB):Nat->(List Int)->Int->Option (List Int)
| 0,_,_=>none
| k+1,x29,x30=>
 if x30<(a0.Code.length:Int)then
  ((idx a0.Code x30).bind fun y27=>
  (eR AA x29 y27.Op).bind fun y28=>
  (if y27.Op=1 then
   (xA y27.A).bind fun y29=>
   some y29
  else
   some y27.A).bind fun x32=>
  ((kU y27.Op).bind fun y30=>
  if 0<y30 then
   (eR AA y28 x32).bind fun y31=>
   some y31
  else
   some y28).bind fun x33=>
  (kU y27.Op).bind fun y32=>
  if 1<y32 then
   (eR AA x33 y27.B).bind fun y33=>
   some y33
  else
   some x33).bind fun x31=>
  (chk (x30+1)).bind fun z6=>
  mZ AA a0 k x31 z6
 else
  some x29
def oV (AA:Nat) (a0:AB):Option (List Int):=
 (eR AA [] a0.AH).bind fun y1=>
 (eR AA y1 a0.AG).bind fun y2=>
 (eR AA y2 (a0.AD.length:Int)).bind fun y3=>
 (mV AA a0 AA y3 0).bind fun x1=>
 (eR AA x1 (a0.Code.length:Int)).bind fun y26=>
 (mZ AA a0 AA y26 0).bind fun x26=>
 some x26
theorem aC7 (AA:Nat)  (a0:AB) (r:List Int) (H:oV AA a0=some r):FnS Tryz.prog 32 [fSt dX a0] [] (fSl (aJ .u8) r) (fun _=>[]):=by
 unfold oV at H
 refine bY Tryz.func32 rfl Tryz.ntmps32 rfl (fun β=>?_)
 refine Z1 ?_
 refine Tn (cG rfl hh bW) fun b1=>?_
 refine Z2 ?_
 refine aK ?_
 refine dQ (aJ .u8) 5 ?_
 refine bz H fun y1 h1 H=>?_
 refine bz H fun y2 h2 H=>?_
 refine bz H fun y3 h3 H=>?_
 apply bQ (ods:=[_,_,_,_,_,_,_,_,_,_,_]) 11 0 2 bM rfl rfl rfl
 refine ND ?_
 refine M2 ?_
 intros
 refine kL (od:=odN [0] true (fun _ v1=>eC v1) (fun _ v1=>[aB v1 5 (aJ .u8) y1])) (p:=0) (τ:=fun v=>aB v 5 (aJ .u8) y1) rfl (fun _=>rfl) (fun _=>rfl) a1I rfl rfl rfl (has rfl) (aM.cons (has rfl) (aM.cons (has rfl) aM.nil)) rfl (cb rfl) (fW AA (.slice none 0 0) [] a0.AH y1 h1) (fun _=>kT) (fun u1 v1=>?_)
 refine M2 ?_
 intros
 refine kL (od:=odN [0] true (fun _ v2=>eC v2) (fun _ v2=>[aB v2 5 (aJ .u8) y2])) (p:=0) (τ:=fun v=>aB v 5 (aJ .u8) y2) rfl (fun _=>rfl) (fun _=>rfl) a1I rfl rfl rfl (has rfl) (aM.cons (hasE rfl gX) (aM.cons (has rfl) aM.nil)) rfl (cb rfl) (fW AA v1 y1 a0.AG y2 h2) (fun _=>kT) (fun u2 v2=>?_)
 refine M3 ?_
 intros
 refine kL (od:=odN [0] true (fun _ v3=>eC v3) (fun _ v3=>[aB v3 5 (aJ .u8) y3])) (p:=0) (τ:=fun v=>aB v 5 (aJ .u8) y3) rfl (fun _=>rfl) (fun _=>rfl) a1I rfl rfl rfl (has rfl) (aM.cons (hasE rfl gX) (aM.cons (has rfl) aM.nil)) rfl (cb rfl) (fW AA v2 y2 (a0.AD.length:Int) y3 h3) (fun _=>kT) (fun u3 v3=>?_)
 refine D1 9 _ v3 (fun _ v3=>eC v3) rfl (tQ rfl hh) (fun _=>?_)
 refine Z1 ?_
 refine jT 21 rfl gX ?_
 refine jT 3 rfl gX ?_
 refine rc 0 fun _=>?_
 revert H;refine B1z fun o1 H Hr1=>?_
 refine aO (ι:=List Int × Value) (fun i=>o1=i.1) (fun i=>[(1,fEq (ptr b1)),(3,fEq i.2)]) (fun i=>[aA b1 25 [fI a0.AH,fSl aE a0.AD,fSl aF a0.Code,fI a0.AG],aB i.2 5 (aJ .u8) i.1]) ?_ ?_
 refine Z4 ?_
 refine aC [1,0] (by decide) ?_
 refine Th (ι:=List Int × Int × Value) (fun i=>mV AA a0 i.1 i.2.1 i.2.2.1=_) (fun i=>[(1,fEq (ptr b1)),(3,fEq i.2.2.2),(4,fI i.2.2.1)]) (fun i=>[aA b1 25 [fI a0.AH,fSl aE a0.AD,fSl aF a0.Code,fI a0.AG],aB i.2.2.2 5 (aJ .u8) i.2.1]) (AA,y3,0,v3) H (fun _ h=>nomatch h) ?_
 clear H;rintro k1 ⟨x4,x5,v6⟩ H;dsimp only at H ⊢;rw [mV]at H
 refine rc 1 fun _=>?_
 refine aK ?_
 revert H;refine I7z (fun c1 H=>?_) fun c1 H=>?_
 revert H;refine B3z fun o2 H Hr2=>?_
 refine aO (ι:=List Int × Value) (fun i=>o2=i.1) (fun i=>[(1,fEq (ptr b1)),(4,fI x5),(3,fEq i.2)]) (fun i=>[aA b1 25 [fI a0.AH,fSl aE a0.AD,fSl aF a0.Code,fI a0.AG],aB i.2 5 (aJ .u8) i.1]) ?_ ?_
 revert H;refine B5z fun y4 h4 H=>?_
 refine Z2 ?_
 refine Tn (bU rfl nS rfl) fun b2=>?_
 refine bT (φs':=[fSl aS y4.AQ,fSl aV y4.AN,fSl aY y4.AP]) a1I rfl rfl (has rfl) (has rfl) (aH (cA) (aH (cA) (aH (cA) bL))) (sz rfl) rfl rfl rfl ?_
 refine Z6 ?_
 refine aQ ?_
 revert H;refine bs fun y5 h5 H=>?_
 refine kX a1I rfl rfl rfl (has rfl) (aM.cons (has rfl) (aM.cons (has rfl) aM.nil)) rfl (cb rfl) (fW AA v6 x4 (y4.AQ.length:Int) y5 h5) (Δi:=[_]) rfl (fun v8=>?_)
 dsimp only [List.append,_root_.List.cons_append,_root_.List.nil_append]
 refine rc 0 fun _=>?_
 revert H;refine B2z fun o3 H Hr3=>?_
 refine aO (ι:=List Int × Value) (fun i=>o3=i.1) (fun i=>[(1,fEq (ptr b1)),(4,fI x5),(5,fEq (ptr b2)),(3,fEq i.2)]) (fun i=>[aA b2 78 [fSl aS y4.AQ,fSl aV y4.AN,fSl aY y4.AP],aA b1 25 [fI a0.AH,fSl aE a0.AD,fSl aF a0.Code,fI a0.AG],aB i.2 5 (aJ .u8) i.1]) ?_ ?_
 refine Z4 ?_
 refine aC [1,2,0] (by decide) ?_
 refine Th (ι:=List Int × Int × Value) (fun i=>nY AA y4 i.1 i.2.1 i.2.2.1=_) (fun i=>[(1,fEq (ptr b1)),(4,fI x5),(5,fEq (ptr b2)),(3,fEq i.2.2.2),(6,fI i.2.2.1)]) (fun i=>[aA b2 78 [fSl aS y4.AQ,fSl aV y4.AN,fSl aY y4.AP],aA b1 25 [fI a0.AH,fSl aE a0.AD,fSl aF a0.Code,fI a0.AG],aB i.2.2.2 5 (aJ .u8) i.2.1]) (AA,y5,0,v8) H (fun _ h=>nomatch h) ?_
 clear H;rintro k2 ⟨x10,x11,v11⟩ H;dsimp only at H ⊢;rw [nY]at H
 refine rc 2 fun _=>?_
 refine aK ?_
 revert H;refine I7z (fun c2 H=>?_) fun c2 H=>?_
 refine Z3 ?_
 refine aK ?_
 revert H;refine B1z fun y6 h6 H=>?_
 revert H;refine bs fun y7 h7 H=>?_
 revert H;refine bs fun y8 h8 H=>?_
 revert H;refine bs fun y9 h9 H=>?_
 apply bQ (ods:=[_,_,_,_,_,_,_,_,_,_,_,_,_,_,_,_]) 16 0 3 bM rfl rfl rfl
 refine ND ?_
 refine M4 ?_
 intros
 refine My (eF rfl hh hh (el rfl) h6) fun _=>?_
 refine M2 ?_
 intros
 refine kL (od:=odN [2] true (fun _ v12=>eC v12) (fun _ v12=>[aB v12 5 (aJ .u8) y7])) (p:=2) (τ:=fun v=>aB v 5 (aJ .u8) y7) rfl (fun _=>rfl) (fun _=>rfl) a1I rfl rfl rfl (has rfl) (aM.cons (has rfl) (aM.cons (has rfl) aM.nil)) rfl (cb rfl) (fW AA v11 x10 y6.At y7 h7) (fun _=>kT) (fun u4 v12=>?_)
 refine M6 ?_
 intros
 refine kL (od:=odN [2] true (fun _ v13=>eC v13) (fun _ v13=>[aB v13 5 (aJ .u8) y9])) (p:=2) (τ:=fun v=>aB v 5 (aJ .u8) y9) rfl (fun _=>rfl) (fun _=>rfl) a1I rfl rfl rfl (has rfl) (aM.cons (hasE rfl gX) (aM.cons (has rfl) aM.nil)) rfl (cb rfl) (fW AA v12 y7 y8.Ae y9 h9) (fun _=>kT) (fun u5 v13=>?_)
 refine D1 14 _ v13 (fun _ v13=>eC v13) rfl (tQ rfl hh) (fun _=>?_)
 refine Z1 ?_
 refine jT 60 rfl gX ?_
 refine jT 3 rfl gX ?_
 refine rc 2 fun _=>?_
 revert H;refine B5z fun z1 h10 H=>?_
 refine Z3 ?_
 exact Tm ((k2,y9,z1,v13)) ⟨H,ls⟩
 exact fk
 kernel_rfl
 refine Z6 ?_
 exact Tm ((x10,v11)) (ij H)
 rintro⟨x7,v9⟩ hi;subst o3;replace H:=Hr3;clear Hr3;try dsimp only at H ⊢
 refine rc 2 fun _=>?_
 refine Z5 ?_
 refine aQ ?_
 revert H;refine bs fun y10 h11 H=>?_
 refine kX a1I rfl rfl rfl (has rfl) (aM.cons (has rfl) (aM.cons (has rfl) aM.nil)) rfl (cb rfl) (fW AA v9 x7 (y4.AN.length:Int) y10 h11) (Δi:=[_]) rfl (fun v14=>?_)
 dsimp only [List.append,_root_.List.cons_append,_root_.List.nil_append]
 refine rc 0 fun _=>?_
 revert H;refine B2z fun o4 H Hr4=>?_
 refine aO (ι:=List Int × Value) (fun i=>o4=i.1) (fun i=>[(1,fEq (ptr b1)),(4,fI x5),(5,fEq (ptr b2)),(3,fEq i.2)]) (fun i=>[aA b2 78 [fSl aS y4.AQ,fSl aV y4.AN,fSl aY y4.AP],aA b1 25 [fI a0.AH,fSl aE a0.AD,fSl aF a0.Code,fI a0.AG],aB i.2 5 (aJ .u8) i.1]) ?_ ?_
 refine Z4 ?_
 refine aC [1,2,0] (by decide) ?_
 refine Th (ι:=List Int × Int × Value) (fun i=>mX AA y4 i.1 i.2.1 i.2.2.1=_) (fun i=>[(1,fEq (ptr b1)),(4,fI x5),(5,fEq (ptr b2)),(3,fEq i.2.2.2),(7,fI i.2.2.1)]) (fun i=>[aA b2 78 [fSl aS y4.AQ,fSl aV y4.AN,fSl aY y4.AP],aA b1 25 [fI a0.AH,fSl aE a0.AD,fSl aF a0.Code,fI a0.AG],aB i.2.2.2 5 (aJ .u8) i.2.1]) (AA,y10,0,v14) H (fun _ h=>nomatch h) ?_
 clear H;rintro k3 ⟨x15,x16,v17⟩ H;dsimp only at H ⊢;rw [mX]at H
 refine rc 2 fun _=>?_
 refine aK ?_
 revert H;refine I7z (fun c3 H=>?_) fun c3 H=>?_
 refine Z3 ?_
 refine aK ?_
 revert H;refine B1z fun y11 h12 H=>?_
 revert H;refine bs fun y12 h13 H=>?_
 revert H;refine bs fun y13 h14 H=>?_
 revert H;refine bs fun y14 h15 H=>?_
 apply bQ (ods:=[_,_,_,_,_,_,_,_,_,_,_,_,_,_,_,_]) 16 0 3 bM rfl rfl rfl
 refine ND ?_
 refine M4 ?_
 intros
 refine My (eF rfl hh hh (el rfl) h12) fun _=>?_
 refine M2 ?_
 intros
 refine kL (od:=odN [2] true (fun _ v18=>eC v18) (fun _ v18=>[aB v18 5 (aJ .u8) y12])) (p:=2) (τ:=fun v=>aB v 5 (aJ .u8) y12) rfl (fun _=>rfl) (fun _=>rfl) a1I rfl rfl rfl (has rfl) (aM.cons (has rfl) (aM.cons (has rfl) aM.nil)) rfl (cb rfl) (fW AA v17 x15 y11.In y12 h13) (fun _=>kT) (fun u6 v18=>?_)
 refine M6 ?_
 intros
 refine kL (od:=odN [2] true (fun _ v19=>eC v19) (fun _ v19=>[aB v19 5 (aJ .u8) y14])) (p:=2) (τ:=fun v=>aB v 5 (aJ .u8) y14) rfl (fun _=>rfl) (fun _=>rfl) a1I rfl rfl rfl (has rfl) (aM.cons (hasE rfl gX) (aM.cons (has rfl) aM.nil)) rfl (cb rfl) (fW AA v18 y12 y13.AV y14 h15) (fun _=>kT) (fun u7 v19=>?_)
 refine D1 14 _ v19 (fun _ v19=>eC v19) rfl (tQ rfl hh) (fun _=>?_)
 refine Z1 ?_
 refine jT 87 rfl gX ?_
 refine jT 3 rfl gX ?_
 refine rc 2 fun _=>?_
 revert H;refine B5z fun z2 h16 H=>?_
 refine Z3 ?_
 exact Tm ((k3,y14,z2,v19)) ⟨H,ls⟩
 exact fk
 kernel_rfl
 refine Z6 ?_
 exact Tm ((x15,v17)) (ij H)
 rintro⟨x12,v15⟩ hi;subst o4;replace H:=Hr4;clear Hr4;try dsimp only at H ⊢
 refine rc 2 fun _=>?_
 refine Z5 ?_
 refine aQ ?_
 revert H;refine bs fun y15 h17 H=>?_
 refine kX a1I rfl rfl rfl (has rfl) (aM.cons (has rfl) (aM.cons (has rfl) aM.nil)) rfl (cb rfl) (fW AA v15 x12 (y4.AP.length:Int) y15 h17) (Δi:=[_]) rfl (fun v20=>?_)
 dsimp only [List.append,_root_.List.cons_append,_root_.List.nil_append]
 refine rc 0 fun _=>?_
 refine Z6 ?_
 refine aC [1,2,0] (by decide) ?_
 refine Th (ι:=List Int × Int × Value) (fun i=>oO AA y4 i.1 i.2.1 i.2.2.1=_) (fun i=>[(1,fEq (ptr b1)),(4,fI x5),(5,fEq (ptr b2)),(3,fEq i.2.2.2),(8,fI i.2.2.1)]) (fun i=>[aA b2 78 [fSl aS y4.AQ,fSl aV y4.AN,fSl aY y4.AP],aA b1 25 [fI a0.AH,fSl aE a0.AD,fSl aF a0.Code,fI a0.AG],aB i.2.2.2 5 (aJ .u8) i.2.1]) (AA,y15,0,v20) H (fun _ h=>nomatch h) ?_
 clear H;rintro k4 ⟨x19,x20,v22⟩ H;dsimp only at H ⊢;rw [oO]at H
 refine rc 2 fun _=>?_
 refine aK ?_
 revert H;refine I7z (fun c4 H=>?_) fun c4 H=>?_
 revert H;refine B3z fun o5 H Hr5=>?_
 refine aO (ι:=List Int × Value) (fun i=>o5=i.1) (fun i=>[(1,fEq (ptr b1)),(4,fI x5),(5,fEq (ptr b2)),(8,fI x20),(3,fEq i.2)]) (fun i=>[aA b2 78 [fSl aS y4.AQ,fSl aV y4.AN,fSl aY y4.AP],aA b1 25 [fI a0.AH,fSl aE a0.AD,fSl aF a0.Code,fI a0.AG],aB i.2 5 (aJ .u8) i.1]) ?_ ?_
 refine Z1 ?_
 refine aK ?_
 revert H;refine bs fun y16 h18 H=>?_
 revert H;refine bs fun y17 h19 H=>?_
 revert H;refine bs fun y18 h20 H=>?_
 revert H;refine bs fun y19 h21 H=>?_
 revert H;refine bs fun y20 h22 H=>?_
 revert H;refine bs fun y21 h23 H=>?_
 apply bQ (ods:=[_,_,_,_,_,_,_,_,_,_,_,_,_,_,_,_,_,_,_,_,_,_,_,_]) 24 0 3 bM rfl rfl rfl
 refine ND ?_
 refine M4 ?_
 intros
 refine My (eF rfl hh hh (el rfl) h18) fun _=>?_
 refine M2 ?_
 intros
 refine kL (od:=odN [2] true (fun _ v24=>eC v24) (fun _ v24=>[aB v24 5 (aJ .u8) y17])) (p:=2) (τ:=fun v=>aB v 5 (aJ .u8) y17) rfl (fun _=>rfl) (fun _=>rfl) a1I rfl rfl rfl (has rfl) (aM.cons (has rfl) (aM.cons (has rfl) aM.nil)) rfl (cb rfl) (fW AA v22 x19 y16.At y17 h19) (fun _=>kT) (fun u8 v24=>?_)
 refine M3 ?_
 intros
 refine My (eF rfl hh hh (el rfl) h20) fun _=>?_
 refine M2 ?_
 intros
 refine kL (od:=odN [2] true (fun _ v25=>eC v25) (fun _ v25=>[aB v25 5 (aJ .u8) y19])) (p:=2) (τ:=fun v=>aB v 5 (aJ .u8) y19) rfl (fun _=>rfl) (fun _=>rfl) a1I rfl rfl rfl (has rfl) (aM.cons (hasE rfl gX) (aM.cons (has rfl) aM.nil)) rfl (cb rfl) (fW AA v24 y17 y18.AV y19 h21) (fun _=>kT) (fun u9 v25=>?_)
 refine M7 ?_
 intros
 refine kL (od:=odN [2] true (fun _ v26=>eC v26) (fun _ v26=>[aB v26 5 (aJ .u8) y21])) (p:=2) (τ:=fun v=>aB v 5 (aJ .u8) y21) rfl (fun _=>rfl) (fun _=>rfl) a1I rfl rfl rfl (has rfl) (aM.cons (hasE rfl gX) (aM.cons (has rfl) aM.nil)) rfl (cb rfl) (fW AA v25 y19 (y20.AX.length:Int) y21 h23) (fun _=>kT) (fun u10 v26=>?_)
 refine D1 22 _ v26 (fun _ v26=>eC v26) rfl (tQ rfl hh) (fun _=>?_)
 refine Z1 ?_
 refine jT 122 rfl gX ?_
 refine jT 3 rfl gX ?_
 refine rc 2 fun _=>?_
 refine Z5 ?_
 refine Th (ι:=List Int × Int × Value) (fun i=>mM AA y4 x20 i.1 i.2.1 i.2.2.1=_) (fun i=>[(1,fEq (ptr b1)),(4,fI x5),(5,fEq (ptr b2)),(8,fI x20),(3,fEq i.2.2.2),(9,fI i.2.2.1)]) (fun i=>[aA b2 78 [fSl aS y4.AQ,fSl aV y4.AN,fSl aY y4.AP],aA b1 25 [fI a0.AH,fSl aE a0.AD,fSl aF a0.Code,fI a0.AG],aB i.2.2.2 5 (aJ .u8) i.2.1]) (AA,y21,0,v26) H (fun _ h=>nomatch h) ?_
 clear H;rintro k5 ⟨x24,x25,v28⟩ H;dsimp only at H ⊢;rw [mM]at H
 refine rc 2 fun _=>?_
 refine aK ?_
 revert H;refine B5z fun y22 h24 H=>?_
 refine Yy (eF rfl hh hh (el rfl) h24) ?_
 revert H;refine I5z (fun c5 H=>?_) fun c5 H=>?_
 refine Z3 ?_
 refine aK ?_
 revert H;refine B6z fun y23 h25 H=>?_
 revert H;refine B4z fun y24 h26 H=>?_
 refine Z2 ?_
 refine aQ ?_
 revert H;refine bs fun y25 h27 H=>?_
 refine kX a1I rfl rfl rfl (has rfl) (aM.cons (has rfl) (aM.cons (has rfl) aM.nil)) rfl (cb rfl) (fW AA v28 x24 y24 y25 h27) (Δi:=[_]) rfl (fun v29=>?_)
 dsimp only [List.append,_root_.List.cons_append,_root_.List.nil_append]
 refine rc 0 fun _=>?_
 revert H;refine B6z fun z3 h28 H=>?_
 refine Z3 ?_
 refine aC [1,2,0] (by decide) ?_
 exact Tm ((k5,y25,z3,v29)) ⟨H,ls⟩
 refine Z7 ?_
 exact Tm ((x24,v28)) (ij H)
 exact fk
 kernel_rfl
 rintro⟨x21,v23⟩ hi;subst o5;replace H:=Hr5;clear Hr5;try dsimp only at H ⊢
 refine rc 2 fun _=>?_
 revert H;refine B2z fun z4 h29 H=>?_
 refine Z3 ?_
 exact Tm ((k4,x21,z4,v23)) ⟨H,ls⟩
 refine Z7 ?_
 refine aC [1,2] (by decide) ?_
 exact Tm ((x19,v22)) (ij H)
 rintro⟨x6,v7⟩ hi;subst o2;replace H:=Hr2;clear Hr2;try dsimp only at H ⊢
 refine rc 1 fun _=>?_
 revert H;refine B2z fun z5 h30 H=>?_
 refine Z3 ?_
 exact Tm ((k1,x6,z5,v7)) ⟨H,ls⟩
 refine Z6 ?_
 exact Tm ((x4,v6)) (ij H)
 rintro⟨x1,v4⟩ hi;subst o1;replace H:=Hr1;clear Hr1;try dsimp only at H ⊢
 refine rc 1 fun _=>?_
 refine Z5 ?_
 refine aP ?_
 refine bz H fun y26 h31 H=>?_
 refine kX a1I rfl rfl rfl (has rfl) (aM.cons (has rfl) (aM.cons (has rfl) aM.nil)) rfl (cb rfl) (fW AA v4 x1 (a0.Code.length:Int) y26 h31) (Δi:=[_]) rfl (fun v30=>?_)
 dsimp only [List.append,_root_.List.cons_append,_root_.List.nil_append]
 refine rc 0 fun _=>?_
 revert H;refine B2z fun o6 H Hr6=>?_
 refine aO (ι:=List Int × Value) (fun i=>o6=i.1) (fun i=>[(3,fEq i.2)]) (fun i=>[aA b1 25 [fI a0.AH,fSl aE a0.AD,fSl aF a0.Code,fI a0.AG],aB i.2 5 (aJ .u8) i.1]) ?_ ?_
 refine Z4 ?_
 refine aC [1,0] (by decide) ?_
 refine Th (ι:=List Int × Int × Value) (fun i=>mZ AA a0 i.1 i.2.1 i.2.2.1=_) (fun i=>[(1,fEq (ptr b1)),(3,fEq i.2.2.2),(10,fI i.2.2.1)]) (fun i=>[aA b1 25 [fI a0.AH,fSl aE a0.AD,fSl aF a0.Code,fI a0.AG],aB i.2.2.2 5 (aJ .u8) i.2.1]) (AA,y26,0,v30) H (fun _ h=>nomatch h) ?_
 clear H;rintro k6 ⟨x29,x30,v33⟩ H;dsimp only at H ⊢;rw [mZ]at H
 refine rc 1 fun _=>?_
 refine aK ?_
 revert H;refine I7z (fun c6 H=>?_) fun c6 H=>?_
 revert H;refine B3z fun o7 H Hr7=>?_
 refine aO (ι:=List Int × Value) (fun i=>o7=i.1) (fun i=>[(1,fEq (ptr b1)),(10,fI x30),(3,fEq i.2)]) (fun i=>[aA b1 25 [fI a0.AH,fSl aE a0.AD,fSl aF a0.Code,fI a0.AG],aB i.2 5 (aJ .u8) i.1]) ?_ ?_
 revert H;refine B5z fun y27 h32 H=>?_
 refine Z2 ?_
 refine Tn (bU rfl kV rfl) fun b3=>?_
 refine bT (φs':=[fI y27.Op,fI y27.A,fI y27.B]) a1I rfl rfl (has rfl) (has rfl) (aH (aD a1I) (aH (aD a1I) (aH (aD a1I) bL))) (sz rfl) rfl rfl rfl ?_
 refine Z5 ?_
 refine aQ ?_
 revert H;refine bs fun y28 h33 H=>?_
 refine kX a1I rfl rfl rfl (has rfl) (aM.cons (has rfl) (aM.cons (has rfl) aM.nil)) rfl (cb rfl) (fW AA v33 x29 y27.Op y28 h33) (Δi:=[_]) rfl (fun v35=>?_)
 dsimp only [List.append,_root_.List.cons_append,_root_.List.nil_append]
 refine rc 0 fun _=>?_
 revert H;refine B2z fun o8 H Hr8=>?_
 refine aO (fun i=>o8=i) (fun i=>[(1,fEq (ptr b1)),(10,fI x30),(11,fEq (ptr b3)),(3,fEq v35)]) (fun i=>[aA b3 54 [fI y27.Op,fI i,fI y27.B],aA b1 25 [fI a0.AH,fSl aE a0.AD,fSl aF a0.Code,fI a0.AG],aB v35 5 (aJ .u8) y28]) ?_ ?_
 revert H;refine I5z (fun c7 H=>?_) fun c7 H=>?_
 revert H;refine B4z fun y29 h34 H=>?_
 refine Tc (aIf _ _ h34) ?_
 refine Z1 ?_
 refine aP ?_
 refine bJ (φs':=[fI y27.Op,fI y29,fI y27.B]) a1I rfl rfl (has rfl) (has rfl) (aD a1I) (sz rfl) rfl rfl ?_
 refine Z1 ?_
 refine aC [0,2,1] (by decide) ?_
 exact Tm (y29) (ij H)
 refine Z3 ?_
 refine aC [1,2,0] (by decide) ?_
 exact Tm (y27.A) (ij H)
 rintro x32 hi;subst o8;replace H:=Hr8;clear Hr8;try dsimp only at H ⊢
 revert H;refine bs fun o9 H Hr9=>?_
 refine aO (ι:=List Int × Value) (fun i=>o9=i.1) (fun i=>[(1,fEq (ptr b1)),(10,fI x30),(11,fEq (ptr b3)),(3,fEq i.2)]) (fun i=>[aA b3 54 [fI y27.Op,fI x32,fI y27.B],aA b1 25 [fI a0.AH,fSl aE a0.AD,fSl aF a0.Code,fI a0.AG],aB i.2 5 (aJ .u8) i.1]) ?_ ?_
 revert H;refine B3z fun y30 h35 H=>?_
 refine Tc (aAu _ _ h35) ?_
 revert H;refine I2z (fun c8 H=>?_) fun c8 H=>?_
 refine Z5 ?_
 refine aQ ?_
 revert H;refine bs fun y31 h36 H=>?_
 refine kX a1I rfl rfl rfl (has rfl) (aM.cons (has rfl) (aM.cons (has rfl) aM.nil)) rfl (cb rfl) (fW AA v35 y28 x32 y31 h36) (Δi:=[_]) rfl (fun v37=>?_)
 dsimp only [List.append,_root_.List.cons_append,_root_.List.nil_append]
 refine rc 0 fun _=>?_
 refine Z2 ?_
 refine aC [1,2,0] (by decide) ?_
 exact Tm ((y31,v37)) (ij H)
 refine Z3 ?_
 exact Tm ((y28,v35)) (ij H)
 rintro⟨x33,v36⟩ hi;subst o9;replace H:=Hr9;clear Hr9;try dsimp only at H ⊢
 refine rc 2 fun _=>?_
 revert H;refine B3z fun y32 h37 H=>?_
 refine Tc (aAu _ _ h37) ?_
 revert H;refine I2z (fun c9 H=>?_) fun c9 H=>?_
 refine Z5 ?_
 refine aQ ?_
 revert H;refine bs fun y33 h38 H=>?_
 refine kX a1I rfl rfl rfl (has rfl) (aM.cons (has rfl) (aM.cons (has rfl) aM.nil)) rfl (cb rfl) (fW AA v36 x33 y27.B y33 h38) (Δi:=[_]) rfl (fun v38=>?_)
 dsimp only [List.append,_root_.List.cons_append,_root_.List.nil_append]
 refine rc 0 fun _=>?_
 refine Z4 ?_
 refine aC [2,0] (by decide) ?_
 exact Tm ((y33,v38)) (ij H)
 refine Z4 ?_
 refine aC [1,2] (by decide) ?_
 exact Tm ((x33,v36)) (ij H)
 rintro⟨x31,v34⟩ hi;subst o7;replace H:=Hr7;clear Hr7;try dsimp only at H ⊢
 refine rc 1 fun _=>?_
 revert H;refine B2z fun z6 h39 H=>?_
 refine Z3 ?_
 exact Tm ((k6,x31,z6,v34)) ⟨H,ls⟩
 refine Z6 ?_
 exact Tm ((x29,v33)) (ij H)
 rintro⟨x26,v31⟩ hi;subst o6;replace H:=Hr6;clear Hr6;try dsimp only at H ⊢
 refine rc 1 fun _=>?_
 refine Z5 ?_
 refine aP ?_
 refine cP (φ:=fSl (aJ .u8) x26) (v:=v31) [3,189,2] cD fz ?_
 refine cL ?_
 cases H
 refine aC [] (by decide) ?_
 exact To
 exact fk
 kernel_rfl
def rB (AA:Nat) (a0:AB):Option ((List Int) × Int):=
 (lZ AA (⟨a0.AH,a0.AD,a0.Code,a0.AG⟩:AB)).bind fun y1=>
 if y1≠0 then
  some ([],2)
 else
  (oV AA (⟨a0.AH,a0.AD,a0.Code,a0.AG⟩:AB)).bind fun y2=>
  some (y2,0)
theorem aIk (AA:Nat)  (a0:AB) (r:(List Int) × Int) (H:rB AA a0=some r):FnS Tryz.prog 9 [fSt dX a0] [] (dI [fSl (aJ .u8) r.1,fI r.2]) (fun _=>[]):=by
 unfold rB at H
 refine bY Tryz.func9 rfl Tryz.ntmps9 rfl (fun β=>?_)
 refine Z1 ?_
 refine Tn (cG rfl hh bW) fun b1=>?_
 refine Z3 ?_
 refine aK ?_
 refine B2 H fun y1 h1 H=>?_
 refine Tc (aDE _ _ _ h1) ?_
 refine I2 H (fun c1 H=>?_) fun c1 H=>?_
 refine Z6 ?_
 cases H
 refine aC [] (by decide) ?_
 exact qN rfl (hasSE rfl cF) (cM rfl) rfl
 refine B5 H fun y2 h2 H=>?_
 refine Tc (aC7 _ _ _ h2) ?_
 refine Z4 ?_
 cases H
 refine aC [] (by decide) ?_
 exact qN rfl (cM rfl) (cM rfl) rfl
def rH (a0:List Int):Nat->Int->Int->Int->Option ((Unit) ⊕ ((List Int × Int) ⊕ Value))
| 0,_,_,_=>none
| k+1,x4,x5,x6=>
 if x6<6 then
  if x6<(a0.length:Int)then
   (idx a0 x6).bind fun y1=>
   (jB .i64 (IntKind.wrap .i64 y1) 128).bind fun z1=>
   (chk (z1*x5)).bind fun z2=>
   (chk (x4+z2)).bind fun z3=>
   (chk (x5*128)).bind fun z4=>
   if (IntKind.wrap .i64 y1)<128 then
    (if 0<x6 then
     if (IntKind.wrap .i64 y1)=0 then
      ((some (Sum.inr (.iface 93 (.agg ([]:List Value).toArray)))).bind fun r=>some (Sum.inr r)).bind fun r=>some (Sum.inr r)
     else
      some (Sum.inl ())
    else
     some (Sum.inl ())).bind fun o=>match o with
    | Sum.inr r=>some r
    | Sum.inl _=>
    (chk (x6+1)).bind fun z5=>
    (slc a0 z5 (a0.length:Int)).bind fun y2=>
    (some (Sum.inl (y2,z3))).bind fun r=>some (Sum.inr r)
   else
    (chk (x6+1)).bind fun z6=>
    rH a0 k z3 z4 z6
  else
   some (Sum.inl ())
 else
  some (Sum.inl ())
def eO (AA:Nat) (a0:List Int):Option ((List Int × Int) ⊕ Value):=
 (rH a0 AA 0 1 0).bind fun o=>match o with
 | Sum.inr r=>some r
 | Sum.inl _=>
 some (Sum.inr (.iface 93 (.agg ([]:List Value).toArray)))
theorem cR (AA:Nat) (p0:Nat) (a0:List Int) (r:(List Int × Int) ⊕ Value) (H:eO AA a0=some r):FnE Tryz.prog 34 [fEq (.pointer (some ⟨p0,0,none⟩))] [aA p0 72 [fSl (aJ .u8) a0]] r (fun r=>fI r.2) (fun r=>[aA p0 72 [fSl (aJ .u8) r.1]]):=by
 unfold eO at H
 refine iR Tryz.func34 rfl Tryz.ntmps34 rfl (fun β=>?_)
 revert H;refine B7z fun o1 H Hr1=>?_
 refine aO (ι:=Unit) (fun i=>o1=Sum.inl ()) (fun i=>[(0,fEq (ptr p0)),(2,fI 0)]) (fun i=>[aA p0 72 [fSl (aJ .u8) a0]]) ?_ ?_
 refine Z4 ?_
 refine Th (ι:=Int × Int × Int) (fun i=>rH a0 i.1 i.2.1 i.2.2.1 i.2.2.2=_) (fun i=>[(0,fEq (ptr p0)),(2,fI 0),(3,fI i.2.1),(4,fI i.2.2.1),(5,fI i.2.2.2)]) (fun i=>[aA p0 72 [fSl (aJ .u8) a0]]) (AA,0,1,0) H (fun _ h=>nomatch h) ?_
 clear H;rintro k1 ⟨x4,x5,x6⟩ H;dsimp only at H ⊢;rw [rH]at H
 refine aK ?_
 revert H;refine I4z (fun c1 H=>?_) fun c1 H=>?_
 revert H;refine I8z (fun c2 H=>?_) fun c2 H=>?_
 refine Z3 ?_
 refine aK ?_
 revert H;refine B6z fun y1 h1 H=>?_
 refine Z2 ?_
 refine Yy (sI rfl hh sN tX) ?_
 revert H;refine B5z fun z1 h2 H=>?_
 refine Yy (uF rfl hh hh h2) ?_
 revert H;refine B1z fun z2 h3 H=>?_
 revert H;refine B1z fun z3 h4 H=>?_
 revert H;refine B5z fun z4 h5 H=>?_
 revert H;refine I7z (fun c3 H=>?_) fun c3 H=>?_
 revert H;refine B1z fun o2 H Hr2=>?_
 refine aO (ι:=Unit) (fun i=>o2=Sum.inl ()) (fun i=>[(0,fEq (ptr p0)),(3,fI z3),(5,fI x6)]) (fun i=>[aA p0 72 [fSl (aJ .u8) a0]]) ?_ ?_
 revert H;refine I4z (fun c4 H=>?_) fun c4 H=>?_
 revert H;refine I4z (fun c5 H=>?_) fun c5 H=>?_
 refine Z2 ?_
 refine Yy (dJ (ψs:=[]) rfl aBo rfl bE.nil rfl) ?_
 refine Yy (aAX rfl (hasE rfl (aAl [])) aAO) ?_
 refine aA2 a1I rfl (has rfl) ?_
 revert H;refine B1z fun r1 H e1=>?_
 cases e1;cases Hr2
 revert H;refine B5z fun r2 H e2=>?_
 cases e2;cases Hr1
 cases H
 exact bC
 refine Z3 ?_
 exact Tm (()) (ij H)
 refine Z7 ?_
 exact Tm (()) (ij H)
 rintro i hi;subst o2;replace H:=Hr2;clear Hr2;try dsimp only at H ⊢
 revert H;refine B6z fun z5 h6 H=>?_
 refine Yy (mE rfl hh hh h6) ?_
 revert H;refine bs fun y2 h7 H=>?_
 refine Yy (vN (t:=(aJ .u8)) rfl hh (vP hh) xP (el rfl) h7) ?_
 refine Z1 ?_
 refine bJ (φs':=[fSl (aJ .u8) y2]) a1I rfl rfl (has rfl) (has rfl) (cA) (sz rfl) rfl rfl ?_
 revert H;refine jC fun r3 H e3=>?_
 cases e3;cases Hr1
 cases H
 refine gP ?_
 exact To
 revert H;refine B6z fun z6 h8 H=>?_
 refine Z3 ?_
 exact Tm ((k1,z3,z4,z6)) ⟨H,ls⟩
 refine Z6 ?_
 exact Tm (()) (ij H)
 refine Z12 ?_
 refine Z2 ?_
 exact Tm (()) (ij H)
 rintro i hi;subst o1;replace H:=Hr1;clear Hr1;try dsimp only at H ⊢
 refine Z1 ?_
 refine Yy (dJ (ψs:=[]) rfl aBo rfl bE.nil rfl) ?_
 refine Yy (aAX rfl (hasE rfl (aAl [])) aAO) ?_
 refine aA2 a1I rfl (has rfl) ?_
 cases H
 exact bC
open Go.SX Go.SW Go.Dt
def oH (AA:Nat):Nat->Int->(List Int)->(List Ad)->Option ((List Int × List Ad) ⊕ ((List Int × AO) ⊕ Value))
| 0,_,_,_=>none
| k+1,x6,x7,x8=>
 if 0<x6 then
  (eO AA x7).bind fun y2=>
  match y2 with
  | Sum.inr pv2=>(some (Sum.inr pv2)).bind fun r=>some (Sum.inr r)
  | Sum.inl y2=>
  (eO AA y2.1).bind fun y3=>
  match y3 with
  | Sum.inr pv3=>(some (Sum.inr pv3)).bind fun r=>some (Sum.inr r)
  | Sum.inl y3=>
  (cY (x8++[(⟨y2.2,y3.2⟩:Ad)])).bind fun z1=>
  (chk (x6 - 1)).bind fun z2=>
  oH AA k z2 y3.1 z1
 else
  some (Sum.inl (x7,x8))
def mW (AA:Nat):Nat->Int->(List Int)->(List Ab)->Option ((List Int × List Ab) ⊕ ((List Int × AO) ⊕ Value))
| 0,_,_,_=>none
| k+1,x14,x15,x16=>
 if 0<x14 then
  (eO AA x15).bind fun y5=>
  match y5 with
  | Sum.inr pv5=>(some (Sum.inr pv5)).bind fun r=>some (Sum.inr r)
  | Sum.inl y5=>
  (eO AA y5.1).bind fun y6=>
  match y6 with
  | Sum.inr pv6=>(some (Sum.inr pv6)).bind fun r=>some (Sum.inr r)
  | Sum.inl y6=>
  (cY (x16++[(⟨y5.2,y6.2⟩:Ab)])).bind fun z3=>
  (chk (x14 - 1)).bind fun z4=>
  mW AA k z4 y6.1 z3
 else
  some (Sum.inl (x15,x16))
def nF (AA:Nat):Nat->Int->(List Int)->(List Int)->Option ((List Int × List Int) ⊕ ((List AZ × List Int) ⊕ ((List Int × List AZ) ⊕ ((List Int × AO) ⊕ Value))))
| 0,_,_,_=>none
| k+1,x32,x33,x34=>
 if 0<x32 then
  (eO AA x33).bind fun y11=>
  match y11 with
  | Sum.inr pv11=>(((some (Sum.inr pv11)).bind fun r=>some (Sum.inr r)).bind fun r=>some (Sum.inr r)).bind fun r=>some (Sum.inr r)
  | Sum.inl y11=>
  (cY (x34++[y11.2])).bind fun z5=>
  (chk (x32 - 1)).bind fun z6=>
  nF AA k z6 y11.1 z5
 else
  some (Sum.inl (x33,x34))
def oB (AA:Nat):Nat->Int->(List Int)->(List AZ)->Option ((List Int × List AZ) ⊕ ((List Int × AO) ⊕ Value))
| 0,_,_,_=>none
| k+1,x22,x23,x24=>
 if 0<x22 then
  ((eO AA x23).bind fun y8=>
  match y8 with
  | Sum.inr pv8=>((some (Sum.inr pv8)).bind fun r=>some (Sum.inr r)).bind fun r=>some (Sum.inr r)
  | Sum.inl y8=>
  (eO AA y8.1).bind fun y9=>
  match y9 with
  | Sum.inr pv9=>((some (Sum.inr pv9)).bind fun r=>some (Sum.inr r)).bind fun r=>some (Sum.inr r)
  | Sum.inl y9=>
  ((eO AA y9.1).bind fun y10=>
  match y10 with
  | Sum.inr pv10=>(((some (Sum.inr pv10)).bind fun r=>some (Sum.inr r)).bind fun r=>some (Sum.inr r)).bind fun r=>some (Sum.inr r)
  | Sum.inl y10=>
  nF AA AA y10.2 y10.1 []).bind fun o=>match o with
  | Sum.inr r=>some r
  | Sum.inl (x27,x28)=>
  (cY (x24++[(⟨y8.2,x28,y9.2⟩:AZ)])).bind fun z7=>
  some (Sum.inl (z7,x27))).bind fun o=>match o with
  | Sum.inr r=>some r
  | Sum.inl (x25,x26)=>
  (chk (x22 - 1)).bind fun z8=>
  oB AA k z8 x26 x25
 else
  some (Sum.inl (x23,x24))
def xV (AA:Nat) (a0:List Int):Option ((List Int × AO) ⊕ Value):=
 ((eO AA a0).bind fun y1=>
 match y1 with
 | Sum.inr pv1=>(some (Sum.inr pv1)).bind fun r=>some (Sum.inr r)
 | Sum.inl y1=>
 oH AA AA y1.2 y1.1 []).bind fun o=>match o with
 | Sum.inr r=>some r
 | Sum.inl (x1,x2)=>
 ((eO AA x1).bind fun y4=>
 match y4 with
 | Sum.inr pv4=>(some (Sum.inr pv4)).bind fun r=>some (Sum.inr r)
 | Sum.inl y4=>
 mW AA AA y4.2 y4.1 []).bind fun o=>match o with
 | Sum.inr r=>some r
 | Sum.inl (x9,x10)=>
 ((eO AA x9).bind fun y7=>
 match y7 with
 | Sum.inr pv7=>(some (Sum.inr pv7)).bind fun r=>some (Sum.inr r)
 | Sum.inl y7=>
 oB AA AA y7.2 y7.1 []).bind fun o=>match o with
 | Sum.inr r=>some r
 | Sum.inl (x17,x18)=>
 some (Sum.inl (x17,(⟨x2,x10,x18⟩:AO)))
theorem aCZ (AA:Nat) (p0:Nat) (a0:List Int) (r:(List Int × AO) ⊕ Value) (H:xV AA a0=some r):FnE Tryz.prog 35 [fEq (.pointer (some ⟨p0,0,none⟩))] [aA p0 72 [fSl (aJ .u8) a0]] r (fun r=>fSt aE r.2) (fun r=>[aA p0 72 [fSl (aJ .u8) r.1]]):=by
 unfold xV at H
 refine iR Tryz.func35 rfl Tryz.ntmps35 rfl (fun β=>?_)
 refine Z1 ?_
 refine Tn (bU rfl nS rfl) fun b1=>?_
 refine Z2 ?_
 refine Tn (bU rfl nS rfl) fun b2=>?_
 revert H;refine B1z fun o1 H Hr1=>?_
 refine aO (ι:=List Int × List Ad × Value) (fun i=>o1=Sum.inl (i.1,i.2.1)) (fun i=>[(0,fEq (ptr p0)),(2,fEq (ptr b1)),(3,fEq (ptr b2))]) (fun i=>[aA p0 72 [fSl (aJ .u8) i.1],aA b2 78 [fEq i.2.2,fEq (.slice none 0 0),fEq (.slice none 0 0)],aA b1 78 [fEq (.slice none 0 0),fEq (.slice none 0 0),fEq (.slice none 0 0)],aB i.2.2 80 aS i.2.1]) ?_ ?_
 refine Z2 ?_
 refine aQ ?_
 revert H;refine bs fun y1 h1 H=>?_
 rcases y1 with y1 | pv1 <;> dsimp only at H
 refine Tc (cR _ _ _ _ h1).s ?_
 refine Z3 ?_
 refine dQ aS 80 ?_
 refine aC [1,2,3,0] (by decide) ?_
 refine Th (ι:=Int × List Int × List Ad × Value) (fun i=>oH AA i.1 i.2.1 i.2.2.1 i.2.2.2.1=_) (fun i=>[(0,fEq (ptr p0)),(2,fEq (ptr b1)),(3,fEq (ptr b2)),(4,fI i.2.1)]) (fun i=>[aA p0 72 [fSl (aJ .u8) i.2.2.1],aA b2 78 [fEq i.2.2.2.2,fEq (.slice none 0 0),fEq (.slice none 0 0)],aA b1 78 [fEq (.slice none 0 0),fEq (.slice none 0 0),fEq (.slice none 0 0)],aB i.2.2.2.2 80 aS i.2.2.2.1]) (AA,y1.2,y1.1,[],(.slice none 0 0)) H (fun _ h=>nomatch h) ?_
 clear H;rintro k1 ⟨x6,x7,x8,v3⟩ H;dsimp only at H ⊢;rw [oH]at H
 refine rc 3 fun _=>?_
 refine aK ?_
 revert H;refine I4z (fun c1 H=>?_) fun c1 H=>?_
 refine Z3 ?_
 refine aK ?_
 revert H;refine B3z fun y2 h2 H=>?_
 rcases y2 with y2 | pv2 <;> dsimp only at H
 refine Tc (cR _ _ _ _ h2).s ?_
 revert H;refine B2z fun y3 h3 H=>?_
 rcases y3 with y3 | pv3 <;> dsimp only at H
 apply bQ (ods:=[_,_,_,_,_,_,_]) 7 0 4 bM rfl rfl rfl
 refine ND ?_
 refine M4 ?_
 intros
 refine nK (od:=odC [0] true (fI y3.2) [aA p0 72 [fSl (aJ .u8) y3.1]]) (Φ:=fI y3.2) (p:=0) rfl (fun _=>rfl) a1I rfl rfl rfl (has rfl) (aM.cons (has rfl) aM.nil) rfl (cb rfl) (cR AA p0 y2.1 (Sum.inl y3) h3).s (fun _=>?_)
 refine My (dJ (ψs:=[fI y2.2,fI y3.2]) rfl aCE rfl (bE.cons (has rfl) (bO (aD a1I)) (bE.cons (has rfl) (bO (aD a1I)) bE.nil)) rfl) fun _=>?_
 refine Mf (φ:=fSl aS [(⟨y2.2,y3.2⟩:Ad)]) (cE (t:=aS) (xs:=[(⟨y2.2,y3.2⟩:Ad)]) rfl (et rfl) (aX.cons rfl (has rfl) bW aX.nil) rfl rfl rfl) (fun b=>cD) fun _=>?_
 revert H;refine B1z fun z1 h4 H=>?_
 refine bD ?_
 refine lI (ys:=[(⟨y2.2,y3.2⟩:Ad)]) a1I rfl rfl rfl (has rfl) (has rfl) (et rfl) rfl h4 (fun v5=>?_)
 refine rc 0 fun hc_v5=>?_
 refine Z1 ?_
 refine aQ ?_
 refine bJ (φs':=[fEq v5,fEq (.slice none 0 0),fEq (.slice none 0 0)]) a1I rfl rfl (has rfl) (has rfl) (aD hc_v5) (sz rfl) rfl rfl ?_
 revert H;refine B5z fun z2 h5 H=>?_
 refine Z3 ?_
 refine aC [2,0,3,1] (by decide) ?_
 exact Tm ((k1,z2,y3.1,z1,v5)) ⟨H,ls⟩
 exact fk
 kernel_rfl
 apply vU (ods:=[_,_,_,_]) 4 4 bM rfl rfl rfl rfl rfl
 refine ND ?_
 refine M4 ?_
 intros
 refine vO a1I rfl (has rfl) (aM.cons (has rfl) aM.nil) rfl (cb rfl) (cR AA p0 y2.1 (Sum.inr pv3) h3).pan
 exact fk
 kernel_rfl
 rfl
 revert H;refine B5z fun r1 H e1=>?_
 cases e1;cases Hr1
 cases H
 exact bC
 refine Tp (cR _ _ _ _ h2).pan ?_
 revert H;refine B6z fun r2 H e2=>?_
 cases e2;cases Hr1
 cases H
 exact bC
 refine Z6 ?_
 exact Tm ((x7,x8,v3)) (ij H)
 refine Tp (cR _ _ _ _ h1).pan ?_
 revert H;refine B2z fun r3 H e3=>?_
 cases e3;cases Hr1
 cases H
 exact bC
 rintro⟨x1,x2,v1⟩ hi;subst o1;replace H:=Hr1;clear Hr1;try dsimp only at H ⊢
 refine rc 3 fun hc_v1=>?_
 revert H;refine bs fun o2 H Hr2=>?_
 refine aO (ι:=List Int × List Ab × Value) (fun i=>o2=Sum.inl (i.1,i.2.1)) (fun i=>[(0,fEq (ptr p0)),(2,fEq (ptr b1)),(3,fEq (ptr b2))]) (fun i=>[aA p0 72 [fSl (aJ .u8) i.1],aA b2 78 [fEq v1,fEq i.2.2,fEq (.slice none 0 0)],aA b1 78 [fEq (.slice none 0 0),fEq (.slice none 0 0),fEq (.slice none 0 0)],aB v1 80 aS x2,aB i.2.2 82 aV i.2.1]) ?_ ?_
 revert H;refine B2z fun y4 h6 H=>?_
 rcases y4 with y4 | pv4 <;> dsimp only at H
 refine Tc (cR _ _ _ _ h6).s ?_
 refine Z3 ?_
 refine dQ aV 82 ?_
 refine aC [1,2,3,4,0] (by decide) ?_
 refine Th (ι:=Int × List Int × List Ab × Value) (fun i=>mW AA i.1 i.2.1 i.2.2.1 i.2.2.2.1=_) (fun i=>[(0,fEq (ptr p0)),(2,fEq (ptr b1)),(3,fEq (ptr b2)),(6,fI i.2.1)]) (fun i=>[aA p0 72 [fSl (aJ .u8) i.2.2.1],aA b2 78 [fEq v1,fEq i.2.2.2.2,fEq (.slice none 0 0)],aA b1 78 [fEq (.slice none 0 0),fEq (.slice none 0 0),fEq (.slice none 0 0)],aB v1 80 aS x2,aB i.2.2.2.2 82 aV i.2.2.2.1]) (AA,y4.2,y4.1,[],(.slice none 0 0)) H (fun _ h=>nomatch h) ?_
 clear H;rintro k2 ⟨x14,x15,x16,v8⟩ H;dsimp only at H ⊢;rw [mW]at H
 refine rc 4 fun _=>?_
 refine aK ?_
 revert H;refine I4z (fun c2 H=>?_) fun c2 H=>?_
 refine Z3 ?_
 refine aK ?_
 revert H;refine B3z fun y5 h7 H=>?_
 rcases y5 with y5 | pv5 <;> dsimp only at H
 refine Tc (cR _ _ _ _ h7).s ?_
 revert H;refine B2z fun y6 h8 H=>?_
 rcases y6 with y6 | pv6 <;> dsimp only at H
 apply bQ (ods:=[_,_,_,_,_,_,_]) 7 0 5 bM rfl rfl rfl
 refine ND ?_
 refine M4 ?_
 intros
 refine nK (od:=odC [0] true (fI y6.2) [aA p0 72 [fSl (aJ .u8) y6.1]]) (Φ:=fI y6.2) (p:=0) rfl (fun _=>rfl) a1I rfl rfl rfl (has rfl) (aM.cons (has rfl) aM.nil) rfl (cb rfl) (cR AA p0 y5.1 (Sum.inl y6) h8).s (fun _=>?_)
 refine My (dJ (ψs:=[fI y5.2,fI y6.2]) rfl aD0 rfl (bE.cons (has rfl) (bO (aD a1I)) (bE.cons (has rfl) (bO (aD a1I)) bE.nil)) rfl) fun _=>?_
 refine Mf (φ:=fSl aV [(⟨y5.2,y6.2⟩:Ab)]) (cE (t:=aV) (xs:=[(⟨y5.2,y6.2⟩:Ab)]) rfl (et rfl) (aX.cons rfl (has rfl) bW aX.nil) rfl rfl rfl) (fun b=>cD) fun _=>?_
 revert H;refine B1z fun z3 h9 H=>?_
 refine aR ?_
 refine lI (ys:=[(⟨y5.2,y6.2⟩:Ab)]) a1I rfl rfl rfl (has rfl) (has rfl) (et rfl) rfl h9 (fun v10=>?_)
 refine rc 0 fun hc_v10=>?_
 refine Z1 ?_
 refine aQ ?_
 refine bJ (φs':=[fEq v1,fEq v10,fEq (.slice none 0 0)]) a1I rfl rfl (has rfl) (has rfl) (aD hc_v10) (sz rfl) rfl rfl ?_
 revert H;refine B5z fun z4 h10 H=>?_
 refine Z3 ?_
 refine aC [2,0,3,4,1] (by decide) ?_
 exact Tm ((k2,z4,y6.1,z3,v10)) ⟨H,ls⟩
 exact fk
 kernel_rfl
 apply vU (ods:=[_,_,_,_]) 4 5 bM rfl rfl rfl rfl rfl
 refine ND ?_
 refine M4 ?_
 intros
 refine vO a1I rfl (has rfl) (aM.cons (has rfl) aM.nil) rfl (cb rfl) (cR AA p0 y5.1 (Sum.inr pv6) h8).pan
 exact fk
 kernel_rfl
 rfl
 revert H;refine B5z fun r4 H e4=>?_
 cases e4;cases Hr2
 cases H
 exact bC
 refine Tp (cR _ _ _ _ h7).pan ?_
 revert H;refine B6z fun r5 H e5=>?_
 cases e5;cases Hr2
 cases H
 exact bC
 refine Z6 ?_
 exact Tm ((x15,x16,v8)) (ij H)
 refine Tp (cR _ _ _ _ h6).pan ?_
 revert H;refine B2z fun r6 H e6=>?_
 cases e6;cases Hr2
 cases H
 exact bC
 rintro⟨x9,x10,v6⟩ hi;subst o2;replace H:=Hr2;clear Hr2;try dsimp only at H ⊢
 refine rc 4 fun hc_v6=>?_
 revert H;refine bs fun o3 H Hr3=>?_
 refine aO (ι:=List Int × List AZ × Value) (fun i=>o3=Sum.inl (i.1,i.2.1)) (fun i=>[(0,fEq (ptr p0)),(2,fEq (ptr b1)),(3,fEq (ptr b2))]) (fun i=>[aA p0 72 [fSl (aJ .u8) i.1],aA b2 78 [fEq v1,fEq v6,fEq i.2.2],aA b1 78 [fEq (.slice none 0 0),fEq (.slice none 0 0),fEq (.slice none 0 0)],aB v1 80 aS x2,aB v6 82 aV x10,aB i.2.2 84 aY i.2.1]) ?_ ?_
 revert H;refine B2z fun y7 h11 H=>?_
 rcases y7 with y7 | pv7 <;> dsimp only at H
 refine Tc (cR _ _ _ _ h11).s ?_
 refine Z3 ?_
 refine dQ aY 84 ?_
 refine aC [1,2,3,4,5,0] (by decide) ?_
 refine Th (ι:=Int × List Int × List AZ × Value) (fun i=>oB AA i.1 i.2.1 i.2.2.1 i.2.2.2.1=_) (fun i=>[(0,fEq (ptr p0)),(2,fEq (ptr b1)),(3,fEq (ptr b2)),(8,fI i.2.1)]) (fun i=>[aA p0 72 [fSl (aJ .u8) i.2.2.1],aA b2 78 [fEq v1,fEq v6,fEq i.2.2.2.2],aA b1 78 [fEq (.slice none 0 0),fEq (.slice none 0 0),fEq (.slice none 0 0)],aB v1 80 aS x2,aB v6 82 aV x10,aB i.2.2.2.2 84 aY i.2.2.2.1]) (AA,y7.2,y7.1,[],(.slice none 0 0)) H (fun _ h=>nomatch h) ?_
 clear H;rintro k3 ⟨x22,x23,x24,v13⟩ H;dsimp only at H ⊢;rw [oB]at H
 refine rc 5 fun _=>?_
 refine aK ?_
 revert H;refine I4z (fun c3 H=>?_) fun c3 H=>?_
 revert H;refine B3z fun o4 H Hr4=>?_
 refine aO (ι:=List AZ × List Int × Value) (fun i=>o4=Sum.inl (i.1,i.2.1)) (fun i=>[(0,fEq (ptr p0)),(2,fEq (ptr b1)),(3,fEq (ptr b2)),(8,fI x22)]) (fun i=>[aA b2 78 [fEq v1,fEq v6,fEq i.2.2],aA p0 72 [fSl (aJ .u8) i.2.1],aA b1 78 [fEq (.slice none 0 0),fEq (.slice none 0 0),fEq (.slice none 0 0)],aB v1 80 aS x2,aB v6 82 aV x10,aB i.2.2 84 aY i.1]) ?_ ?_
 refine Z2 ?_
 refine Yy (dJ (ψs:=[fI 0,fEq (.slice none 0 0),fI 0]) rfl ty_bu_84 rfl bE.nil rfl) ?_
 refine Tn (bU rfl mK rfl) fun b5=>?_
 refine bT (φs':=[fI 0,fEq (.slice none 0 0),fI 0]) a1I rfl rfl (has rfl) (has rfl) (aH (aD a1I) (aH (aD a1I) (aH (aD a1I) bL))) (sz rfl) rfl rfl rfl ?_
 refine Z3 ?_
 refine aP ?_
 revert H;refine bs fun y8 h12 H=>?_
 rcases y8 with y8 | pv8 <;> dsimp only at H
 refine Tc (cR _ _ _ _ h12).s ?_
 refine Z1 ?_
 refine aP ?_
 refine bJ (φs':=[fI y8.2,fEq (.slice none 0 0),fI 0]) a1I rfl rfl (has rfl) (has rfl) (aD a1I) (sz rfl) rfl rfl ?_
 refine Z3 ?_
 refine aP ?_
 revert H;refine bs fun y9 h13 H=>?_
 rcases y9 with y9 | pv9 <;> dsimp only at H
 refine Tc (cR _ _ _ _ h13).s ?_
 refine Z1 ?_
 refine aP ?_
 refine bJ (φs':=[fI y8.2,fEq (.slice none 0 0),fI y9.2]) a1I rfl rfl (has rfl) (has rfl) (aD a1I) (sz rfl) rfl rfl ?_
 revert H;refine B1z fun o5 H Hr5=>?_
 refine aO (ι:=List Int × List Int × Value) (fun i=>o5=Sum.inl (i.1,i.2.1)) (fun i=>[(0,fEq (ptr p0)),(2,fEq (ptr b1)),(3,fEq (ptr b2)),(8,fI x22),(9,fEq (ptr b5))]) (fun i=>[aA p0 72 [fSl (aJ .u8) i.1],aA b5 84 [fI y8.2,fEq i.2.2,fI y9.2],aA b2 78 [fEq v1,fEq v6,fEq v13],aA b1 78 [fEq (.slice none 0 0),fEq (.slice none 0 0),fEq (.slice none 0 0)],aB i.2.2 3 tI i.2.1,aB v1 80 aS x2,aB v6 82 aV x10,aB v13 84 aY x24]) ?_ ?_
 refine Z2 ?_
 refine aP ?_
 revert H;refine bs fun y10 h14 H=>?_
 rcases y10 with y10 | pv10 <;> dsimp only at H
 refine Tc (cR _ _ _ _ h14).s ?_
 refine Z3 ?_
 refine dQ tI 3 ?_
 refine aC [1,2,3,4,0,5,6,7] (by decide) ?_
 refine Th (ι:=Int × List Int × List Int × Value) (fun i=>nF AA i.1 i.2.1 i.2.2.1 i.2.2.2.1=_) (fun i=>[(0,fEq (ptr p0)),(2,fEq (ptr b1)),(3,fEq (ptr b2)),(8,fI x22),(9,fEq (ptr b5)),(10,fI i.2.1)]) (fun i=>[aA p0 72 [fSl (aJ .u8) i.2.2.1],aA b5 84 [fI y8.2,fEq i.2.2.2.2,fI y9.2],aA b2 78 [fEq v1,fEq v6,fEq v13],aA b1 78 [fEq (.slice none 0 0),fEq (.slice none 0 0),fEq (.slice none 0 0)],aB i.2.2.2.2 3 tI i.2.2.2.1,aB v1 80 aS x2,aB v6 82 aV x10,aB v13 84 aY x24]) (AA,y10.2,y10.1,[],(.slice none 0 0)) H (fun _ h=>nomatch h) ?_
 clear H;rintro k4 ⟨x32,x33,x34,v17⟩ H;dsimp only at H ⊢;rw [nF]at H
 refine rc 4 fun _=>?_
 refine aK ?_
 revert H;refine I4z (fun c4 H=>?_) fun c4 H=>?_
 refine Z3 ?_
 refine aK ?_
 revert H;refine B1z fun y11 h15 H=>?_
 rcases y11 with y11 | pv11 <;> dsimp only at H
 apply bQ (ods:=[_,_,_,_,_]) 5 0 8 bM rfl rfl rfl
 refine ND ?_
 refine M3 ?_
 intros
 refine nK (od:=odC [0] true (fI y11.2) [aA p0 72 [fSl (aJ .u8) y11.1]]) (Φ:=fI y11.2) (p:=0) rfl (fun _=>rfl) a1I rfl rfl rfl (has rfl) (aM.cons (has rfl) aM.nil) rfl (cb rfl) (cR AA p0 x33 (Sum.inl y11) h15).s (fun _=>?_)
 refine Mf (φ:=fSl tI [y11.2]) (cE (t:=tI) (xs:=[y11.2]) rfl (et rfl) (aX.cons rfl (has rfl) (bO (aD a1I)) aX.nil) rfl rfl rfl) (fun b=>cD) fun _=>?_
 revert H;refine B1z fun z5 h16 H=>?_
 refine aR ?_
 refine lI (ys:=[y11.2]) a1I rfl rfl rfl (has rfl) (has rfl) (et rfl) rfl h16 (fun v19=>?_)
 refine rc 0 fun hc_v19=>?_
 refine Z1 ?_
 refine aQ ?_
 refine bJ (φs':=[fI y8.2,fEq v19,fI y9.2]) a1I rfl rfl (has rfl) (has rfl) (aD hc_v19) (sz rfl) rfl rfl ?_
 revert H;refine B5z fun z6 h17 H=>?_
 refine Z3 ?_
 refine aC [2,0,3,4,1,5,6,7] (by decide) ?_
 exact Tm ((k4,z6,y11.1,z5,v19)) ⟨H,ls⟩
 exact fk
 kernel_rfl
 apply vU (ods:=[_,_,_]) 3 8 bM rfl rfl rfl rfl rfl
 refine ND ?_
 refine M3 ?_
 intros
 refine vO a1I rfl (has rfl) (aM.cons (has rfl) aM.nil) rfl (cb rfl) (cR AA p0 x33 (Sum.inr pv11) h15).pan
 exact fk
 kernel_rfl
 rfl
 revert H;refine B5z fun r7 H e7=>?_
 cases e7;cases Hr5
 revert H;refine B2z fun r8 H e8=>?_
 cases e8;cases Hr4
 revert H;refine B3z fun r9 H e9=>?_
 cases e9;cases Hr3
 cases H
 exact bC
 refine Z6 ?_
 exact Tm ((x33,x34,v17)) (ij H)
 refine Tp (cR _ _ _ _ h14).pan ?_
 revert H;refine B2z fun r10 H e10=>?_
 cases e10;cases Hr5
 revert H;refine B2z fun r11 H e11=>?_
 cases e11;cases Hr4
 revert H;refine B3z fun r12 H e12=>?_
 cases e12;cases Hr3
 cases H
 exact bC
 rintro⟨x27,x28,v15⟩ hi;subst o5;replace H:=Hr5;clear Hr5;try dsimp only at H ⊢
 refine rc 4 fun _=>?_
 refine Z4 ?_
 refine aR ?_
 refine cP (φ:=fSl tI x28) (v:=v15) [] cD (fun _ h=>nomatch h) ?_
 refine aQ ?_
 refine aP ?_
 refine eX (φs':=[fI y8.2,fSl tI x28,fI y9.2]) (i:=1) rfl rfl ?_
 refine iY 73 (ψ:=dW [fI y8.2,fEq v15,fI y9.2]) rfl (jV (i:=1) (φs:=[fI y8.2,fEq v15,fI y9.2]) (φs':=[fI y8.2,fSl tI x28,fI y9.2]) rfl rfl) ?_
 refine cL ?_
 refine Tn (cE (t:=aY) (xs:=[(⟨y8.2,x28,y9.2⟩:AZ)]) rfl (et rfl) (aX.cons rfl hh bW aX.nil) rfl rfl rfl) fun b7=>?_
 generalize (Value.slice (some ⟨b7,0,none⟩) _ _)=v20
 refine rc 0 fun _=>?_
 revert H;refine bs fun z7 h18 H=>?_
 refine T_fr7 ?_
 refine aP ?_
 refine gJ a1I rfl rfl rfl (has rfl) (has rfl) (et rfl) rfl h18 (fun v21=>?_)
 refine rc 0 fun hc_v21=>?_
 refine Z1 ?_
 refine bD ?_
 refine bJ (φs':=[fEq v1,fEq v6,fEq v21]) a1I rfl rfl (has rfl) (has rfl) (aD hc_v21) (sz rfl) rfl rfl ?_
 refine Z3 ?_
 refine aC [0,3,4,5,6,1] (by decide) ?_
 exact Tm ((z7,x27,v21)) (ij H)
 refine Tp (cR _ _ _ _ h13).pan ?_
 revert H;refine B3z fun r13 H e13=>?_
 cases e13;cases Hr4
 revert H;refine B3z fun r14 H e14=>?_
 cases e14;cases Hr3
 cases H
 exact bC
 refine Tp (cR _ _ _ _ h12).pan ?_
 revert H;refine B3z fun r15 H e15=>?_
 cases e15;cases Hr4
 revert H;refine B3z fun r16 H e16=>?_
 cases e16;cases Hr3
 cases H
 exact bC
 rintro⟨x25,x26,v14⟩ hi;subst o4;replace H:=Hr4;clear Hr4;try dsimp only at H ⊢
 refine rc 5 fun _=>?_
 revert H;refine B2z fun z8 h19 H=>?_
 refine Z3 ?_
 refine aC [1,0,2,3,4,5] (by decide) ?_
 exact Tm ((k3,z8,x26,x25,v14)) ⟨H,ls⟩
 refine Z6 ?_
 exact Tm ((x23,x24,v13)) (ij H)
 refine Tp (cR _ _ _ _ h11).pan ?_
 revert H;refine B2z fun r17 H e17=>?_
 cases e17;cases Hr3
 cases H
 exact bC
 rintro⟨x17,x18,v11⟩ hi;subst o3;replace H:=Hr3;clear Hr3;try dsimp only at H ⊢
 refine rc 5 fun hc_v11=>?_
 refine Z2 ?_
 refine aQ ?_
 refine bT (φs':=[fEq v1,fEq v6,fEq v11]) a1I rfl rfl (has rfl) (has rfl) (aH (aD hc_v1) (aH (aD hc_v6) (aH (aD hc_v11) bL))) (sz rfl) rfl rfl rfl ?_
 refine Z2 ?_
 refine bD ?_
 refine cP (φ:=fSl aS x2) (v:=v1) [] cD (fun _ h=>nomatch h) ?_
 refine bD ?_
 refine aP ?_
 refine eX (φs':=[fSl aS x2,fEq v6,fEq v11]) (i:=0) rfl rfl ?_
 refine aQ ?_
 refine aP ?_
 refine eX (φs':=[fSl aS x2,fEq v6,fEq v11]) (i:=0) rfl rfl ?_
 refine iY 77 (ψ:=dW [fEq v1,fEq v6,fEq v11]) rfl (jV (i:=0) (φs:=[fEq v1,fEq v6,fEq v11]) (φs':=[fSl aS x2,fEq v6,fEq v11]) rfl rfl) ?_
 refine cL ?_
 refine bD ?_
 refine cP (φ:=fSl aV x10) (v:=v6) [] cD (fun _ h=>nomatch h) ?_
 refine aQ ?_
 refine aP ?_
 refine eX (φs':=[fSl aS x2,fSl aV x10,fEq v11]) (i:=1) rfl rfl ?_
 refine aQ ?_
 refine aP ?_
 refine eX (φs':=[fSl aS x2,fSl aV x10,fEq v11]) (i:=1) rfl rfl ?_
 refine iY 77 (ψ:=dW [fSl aS x2,fEq v6,fEq v11]) rfl (jV (i:=1) (φs:=[fSl aS x2,fEq v6,fEq v11]) (φs':=[fSl aS x2,fSl aV x10,fEq v11]) rfl rfl) ?_
 refine cL ?_
 refine bD ?_
 refine cP (φ:=fSl aY x18) (v:=v11) [] cD (fun _ h=>nomatch h) ?_
 refine aQ ?_
 refine aP ?_
 refine eX (φs':=[fSl aS x2,fSl aV x10,fSl aY x18]) (i:=2) rfl rfl ?_
 refine aQ ?_
 refine aP ?_
 refine eX (φs':=[fSl aS x2,fSl aV x10,fSl aY x18]) (i:=2) rfl rfl ?_
 refine iY 77 (ψ:=dW [fSl aS x2,fSl aV x10,fEq v11]) rfl (jV (i:=2) (φs:=[fSl aS x2,fSl aV x10,fEq v11]) (φs':=[fSl aS x2,fSl aV x10,fSl aY x18]) rfl rfl) ?_
 refine cL ?_
 cases H
 refine gP ?_
 refine aC [0,2] (by decide) ?_
 exact aBW rfl (ag rfl) rfl (cM rfl) Ent.rfl rfl
def uT (AA:Nat) (a0:List Int):Option ((List Int × AL) ⊕ Value):=
 (eO AA a0).bind fun y1=>
 match y1 with
 | Sum.inr pv1=>some (Sum.inr pv1)
 | Sum.inl y1=>
 (tZ y1.2).bind fun y2=>
 bif y2 then
  (pD).bind fun y3=>
  (idx nH y1.2).bind fun y4=>
  (if 0<y4.many then
   (eO AA y1.1).bind fun y5=>
   match y5 with
   | Sum.inr pv2=>(some (Sum.inr pv2)).bind fun r=>some (Sum.inr r)
   | Sum.inl y5=>
   some (Sum.inl (y5.2,y5.1))
  else
   some (Sum.inl (0,y1.1))).bind fun o=>match o with
  | Sum.inr r=>some r
  | Sum.inl (x1,x2)=>
  (if 1<y4.many then
   (eO AA x2).bind fun y6=>
   match y6 with
   | Sum.inr pv3=>(some (Sum.inr pv3)).bind fun r=>some (Sum.inr r)
   | Sum.inl y6=>
   some (Sum.inl (y6.2,y6.1))
  else
   some (Sum.inl (0,x2))).bind fun o=>match o with
  | Sum.inr r=>some r
  | Sum.inl (x3,x4)=>
  (if y1.2=1 then
   (jB .i64 x1 2).bind fun z1=>
   if z1=1 then
    (chk (x1+1)).bind fun z2=>
    (chk (0 - z2)).bind fun z3=>
    (hJ .i64 z3 2).bind fun z4=>
    some z4
   else
    (hJ .i64 x1 2).bind fun z5=>
    some z5
  else
   some x1).bind fun x5=>
  some (Sum.inl (x4,(⟨y1.2,x5,x3⟩:AL)))
 else
  some (Sum.inr (.iface 93 (.agg ([]:List Value).toArray)))
theorem aDa (AA:Nat) (p0:Nat) (a0:List Int) (r:(List Int × AL) ⊕ Value) (H:uT AA a0=some r):FnE Tryz.prog 36 [fEq (.pointer (some ⟨p0,0,none⟩))] [aA p0 72 [fSl (aJ .u8) a0]] r (fun r=>fSt aF r.2) (fun r=>[aA p0 72 [fSl (aJ .u8) r.1]]):=by
 unfold uT at H
 refine iR Tryz.func36 rfl Tryz.ntmps36 rfl (fun β=>?_)
 refine Z1 ?_
 refine Tn (bU rfl kV rfl) fun b1=>?_
 refine Z3 ?_
 refine aP ?_
 refine bz H fun y1 h1 H=>?_
 rcases y1 with y1 | pv1 <;> dsimp only at H
 refine Tc (cR _ _ _ _ h1).s ?_
 refine Z2 ?_
 refine aK ?_
 refine B2 H fun y2 h2 H=>?_
 refine Tc (aE7 _ _ h2) ?_
 refine Z2 ?_
 refine cz H (fun c1 H=>?_) fun c1 H=>?_
 refine Z5 ?_
 refine Yy (dJ (ψs:=[fI y1.2,fI 0,fI 0]) rfl aDo rfl (bE.cons (has rfl) (bO (aD a1I)) bE.nil) rfl) ?_
 refine Tn (bU rfl kV rfl) fun b2=>?_
 refine bT (φs':=[fI y1.2,fI 0,fI 0]) a1I rfl rfl (has rfl) (has rfl) (aH (aD a1I) (aH (aD a1I) (aH (aD a1I) bL))) (sz rfl) rfl rfl rfl ?_
 refine B2 H fun y3 h3 H=>?_
 refine Tc (aCB _ h3) ?_
 refine B1 H fun y4 h4 H=>?_
 refine Yy (o_indexV (A:=gI) (xs:=nH) rfl hh hh rfl aBH (by kernel_rfl) h4) ?_
 refine Yy (o_fieldV 1 rfl hh (by kernel_rfl) rfl) ?_
 revert H;refine B2z fun o1 H Hr1=>?_
 refine aO (fun i=>o1=Sum.inl i) (fun i=>[(0,fEq (ptr p0)),(2,fEq (ptr b1)),(3,fI y1.2),(4,fEq (ptr b2)),(5,fI y4.many)]) (fun i=>[aA b2 54 [fI y1.2,fI i.1,fI 0],aA p0 72 [fSl (aJ .u8) i.2],aA b1 54 [fI 0,fI 0,fI 0]]) ?_ ?_
 revert H;refine I4z (fun c2 H=>?_) fun c2 H=>?_
 refine Z3 ?_
 refine aP ?_
 revert H;refine bs fun y5 h5 H=>?_
 rcases y5 with y5 | pv2 <;> dsimp only at H
 refine Tc (cR _ _ _ _ h5).s ?_
 refine Z1 ?_
 refine aP ?_
 refine bJ (φs':=[fI y1.2,fI y5.2,fI 0]) a1I rfl rfl (has rfl) (has rfl) (aD a1I) (sz rfl) rfl rfl ?_
 refine Z1 ?_
 exact Tm ((y5.2,y5.1)) (ij H)
 refine Tp (cR _ _ _ _ h5).pan ?_
 revert H;refine B1z fun r1 H e1=>?_
 cases e1;cases Hr1
 cases H
 exact bC
 refine Z3 ?_
 exact Tm ((0,y1.1)) (ij H)
 rintro⟨x1,x2⟩ hi;subst o1;replace H:=Hr1;clear Hr1;try dsimp only at H ⊢
 revert H;refine bs fun o2 H Hr2=>?_
 refine aO (fun i=>o2=Sum.inl i) (fun i=>[(0,fEq (ptr p0)),(2,fEq (ptr b1)),(3,fI y1.2),(4,fEq (ptr b2))]) (fun i=>[aA b2 54 [fI y1.2,fI x1,fI i.1],aA p0 72 [fSl (aJ .u8) i.2],aA b1 54 [fI 0,fI 0,fI 0]]) ?_ ?_
 revert H;refine I4z (fun c3 H=>?_) fun c3 H=>?_
 refine Z3 ?_
 refine aP ?_
 revert H;refine bs fun y6 h6 H=>?_
 rcases y6 with y6 | pv3 <;> dsimp only at H
 refine Tc (cR _ _ _ _ h6).s ?_
 refine Z1 ?_
 refine aP ?_
 refine bJ (φs':=[fI y1.2,fI x1,fI y6.2]) a1I rfl rfl (has rfl) (has rfl) (aD a1I) (sz rfl) rfl rfl ?_
 refine Z1 ?_
 exact Tm ((y6.2,y6.1)) (ij H)
 refine Tp (cR _ _ _ _ h6).pan ?_
 revert H;refine B1z fun r2 H e2=>?_
 cases e2;cases Hr2
 cases H
 exact bC
 refine Z3 ?_
 exact Tm ((0,x2)) (ij H)
 rintro⟨x3,x4⟩ hi;subst o2;replace H:=Hr2;clear Hr2;try dsimp only at H ⊢
 revert H;refine bs fun o3 H Hr3=>?_
 refine aO (fun i=>o3=i) (fun i=>[(0,fEq (ptr p0)),(2,fEq (ptr b1)),(4,fEq (ptr b2))]) (fun i=>[aA b2 54 [fI y1.2,fI i,fI x3],aA p0 72 [fSl (aJ .u8) x4],aA b1 54 [fI 0,fI 0,fI 0]]) ?_ ?_
 revert H;refine I5z (fun c4 H=>?_) fun c4 H=>?_
 revert H;refine B2z fun z1 h7 H=>?_
 refine Yg c4 (uF rfl hh hh h7) ?_
 revert H;refine I4z (fun c5 H=>?_) fun c5 H=>?_
 revert H;refine B4z fun z2 h8 H=>?_
 revert H;refine B1z fun z3 h9 H=>?_
 refine Yy (o_neg rfl hh h9) ?_
 revert H;refine bs fun z4 h10 H=>?_
 refine Yy (rT rfl hh hh h10) ?_
 refine Z1 ?_
 refine bJ (φs':=[fI y1.2,fI z4,fI x3]) a1I rfl rfl (has rfl) (has rfl) (aD a1I) (sz rfl) rfl rfl ?_
 refine Z3 ?_
 exact Tm (z4) (ij H)
 revert H;refine fP fun z5 h11 H=>?_
 refine Yy (rT rfl hh hh h11) ?_
 refine Z1 ?_
 refine bJ (φs':=[fI y1.2,fI z5,fI x3]) a1I rfl rfl (has rfl) (has rfl) (aD a1I) (sz rfl) rfl rfl ?_
 refine Z3 ?_
 exact Tm (z5) (ij H)
 refine Z12 ?_
 refine Z5 ?_
 exact Tm (x1) (ij H)
 rintro x5 hi;subst o3;replace H:=Hr3;clear Hr3;try dsimp only at H ⊢
 refine Z2 ?_
 refine aQ ?_
 refine bT (φs':=[fI y1.2,fI x5,fI x3]) a1I rfl rfl (has rfl) (has rfl) (aH (aD a1I) (aH (aD a1I) (aH (aD a1I) bL))) (sz rfl) rfl rfl rfl ?_
 refine Z2 ?_
 cases H
 refine gP ?_
 refine aC [0,2] (by decide) ?_
 exact aBW rfl (ag rfl) rfl (cM rfl) Ent.rfl rfl
 refine Z2 ?_
 refine Yy (dJ (ψs:=[]) rfl aBo rfl bE.nil rfl) ?_
 refine Yy (aAX rfl (hasE rfl (aAl [])) aAO) ?_
 refine aA2 a1I rfl (has rfl) ?_
 refine Z1 ?_
 cases H
 exact bC
 refine Tp (cR _ _ _ _ h1).pan ?_
 refine Z1 ?_
 cases H
 exact bC
def sM (AA:Nat) (a0:AB) (a1:Bool):Option (AB × Int):=
 bif a1 then
  (kW AA (⟨a0.AH,a0.AD,a0.Code,a0.AG⟩:AB)).bind fun y1=>
  if y1≠0 then
   some ((⟨0,[],[],0⟩:AB),y1)
  else
   some ((⟨a0.AH,a0.AD,a0.Code,a0.AG⟩:AB),0)
 else
  some ((⟨0,[],[],0⟩:AB),4)
theorem aHo (AA:Nat)  (a0:AB) (a1:Bool) (r:AB × Int) (H:sM AA a0 a1=some r):FnS Tryz.prog 37 [fSt dX a0,aL a1] [] (dI [fSt dX r.1,fI r.2]) (fun _=>[]):=by
 unfold sM at H
 refine bY Tryz.func37 rfl Tryz.ntmps37 rfl (fun β=>?_)
 refine Z1 ?_
 refine Tn (cG rfl hh bW) fun b1=>?_
 refine Tn (bU rfl tU rfl) fun b2=>?_
 refine Z2 ?_
 refine aK ?_
 refine Z4 ?_
 refine cz H (fun c1 H=>?_) fun c1 H=>?_
 refine Z3 ?_
 refine aK ?_
 refine B2 H fun y1 h1 H=>?_
 refine Tc (aDX _ _ _ h1) ?_
 refine I6 H (fun c2 H=>?_) fun c2 H=>?_
 refine Z2 ?_
 refine Yy (dJ (ψs:=[fI 0,fEq (.slice none 0 0),fEq (.slice none 0 0),fI 0]) rfl lX rfl bE.nil rfl) ?_
 refine Z1 ?_
 refine bT (φs':=[fI 0,fEq (.slice none 0 0),fEq (.slice none 0 0),fI 0]) a1I rfl rfl (has rfl) (has rfl) (aH (aD a1I) (aH (aD a1I) (aH (aD a1I) (aH (aD a1I) bL)))) (sz rfl) rfl rfl rfl ?_
 refine Z3 ?_
 cases H
 refine aC [0] (by decide) ?_
 exact lJ rfl (ag rfl) rfl (cM rfl) (cM rfl) (gV (aG.cons Ent.rfl (aG.cons cF (aG.cons cF (aG.cons Ent.rfl aG.nil))))) rfl
 refine Z5 ?_
 refine bT (φs':=[fI a0.AH,fSl aE a0.AD,fSl aF a0.Code,fI a0.AG]) a1I rfl rfl (has rfl) (has rfl) (aH (aD a1I) (aH (cA) (aH (cA) (aH (aD a1I) bL)))) (sz rfl) rfl rfl rfl ?_
 refine Z3 ?_
 cases H
 refine aC [0] (by decide) ?_
 exact lJ rfl (ag rfl) rfl (cM rfl) (cM rfl) Ent.rfl rfl
 refine Z2 ?_
 refine Yy (dJ (ψs:=[fI 0,fEq (.slice none 0 0),fEq (.slice none 0 0),fI 0]) rfl lX rfl bE.nil rfl) ?_
 refine bT (φs':=[fI 0,fEq (.slice none 0 0),fEq (.slice none 0 0),fI 0]) a1I rfl rfl (has rfl) (has rfl) (aH (aD a1I) (aH (aD a1I) (aH (aD a1I) (aH (aD a1I) bL)))) (sz rfl) rfl rfl rfl ?_
 refine Z3 ?_
 cases H
 refine aC [0] (by decide) ?_
 exact lJ rfl (ag rfl) rfl (cM rfl) (cM rfl) (gV (aG.cons Ent.rfl (aG.cons cF (aG.cons cF (aG.cons Ent.rfl aG.nil))))) rfl
open Go.SX Go.SW Go.Dt
theorem aGj (p0 p1:Nat) (φ0_0 φ0_1 φ0_2 φ0_3 φ1:AF):FnD Tryz.prog 33 [fEq (ptr p0),fEq (ptr p1)] [aA p0 25 [φ0_0,φ0_1,φ0_2,φ0_3],aA p1 29 [φ1]] (.returning) [aA p0 25 [φ0_0,φ0_1,φ0_2,φ0_3],aA p1 29 [φ1]]:=by
 refine aAA Tryz.func33 rfl Tryz.ntmps33 rfl (fun β c₀ cs hc=>?_)
 refine aAz (v:= .nilIface) (cs':=c₀ :: cs) (by simp [recoverD,hc]) rfl rfl rfl rfl ?_
 refine T_inS ?_
 refine Z2 ?_
 refine Yy (aAa rfl hh aAe (rfl:oJ _=some true)) ?_
 refine Z6 ?_
 exact aAq (u':= .returning) (.inr rfl) rfl (by cases c₀;cases hc;rfl) rfl rfl
theorem sZ (p0 p1:Nat) (φ0_0 φ0_1 φ0_2 φ0_3 φ1:AF):FnD Tryz.prog 33 [fEq (ptr p0),fEq (ptr p1)] [aA p0 25 [φ0_0,φ0_1,φ0_2,φ0_3],aA p1 29 [φ1]] (.panicking [{ v:=(.iface 93 (.agg #[])),recovered:=false }]) [aA p0 25 [fI 0,fEq (.slice none 0 0),fEq (.slice none 0 0),fI 0],aA p1 29 [fI 4]]:=by
 refine aAA Tryz.func33 rfl Tryz.ntmps33 rfl (fun β c₀ cs hc=>?_)
 refine aAz (v:=(.iface 93 (.agg #[]))) (cs':={ c₀ with mode:= .panicking [{ v:=(.iface 93 (.agg #[])),recovered:=true }] } :: cs) (by simp [recoverD,hc]) rfl rfl rfl rfl ?_
 refine T_inS ?_
 refine Z2 ?_
 refine Yy (aAa rfl hh aAe (rfl:oJ _=some false)) ?_
 refine Z3 ?_
 refine Yy (aFy rfl hh aAO ty_zb_93) ?_
 refine Z2 ?_
 refine jT 10 rfl (uJ []) ?_
 refine Z3 ?_
 refine Tn (bU rfl ty_ze_93 rfl) fun b1=>?_
 refine bT (φs':=[]) a1I rfl rfl hh hh bL (sz rfl) rfl rfl rfl ?_
 refine Z2 ?_
 refine Yy (dJ (ψs:=[fI 0,fEq (.slice none 0 0),fEq (.slice none 0 0),fI 0]) rfl lX rfl bE.nil rfl) ?_
 refine aP ?_
 refine bT (φs':=[fI 0,fEq (.slice none 0 0),fEq (.slice none 0 0),fI 0]) a1I rfl rfl (has rfl) (has rfl) (aH (aD a1I) (aH (aD a1I) (aH (aD a1I) (aH (aD a1I) bL)))) (sz rfl) rfl rfl rfl ?_
 refine aQ ?_
 refine bJ (φs':=[fI 4]) a1I rfl rfl (has rfl) (has rfl) (aD a1I) (sz rfl) rfl rfl ?_
 refine Z2 ?_
 refine aC [1,0] (by decide) ?_
 exact aAq (u':= .panicking [{ v:=(.iface 93 (.agg #[])),recovered:=true }]) (.inr rfl) rfl rfl rfl rfl
def nT (AA:Nat):Nat->Int->(List Int)->(List AO)->Option ((List Int × List AO) ⊕ (AB × Int))
| 0,_,_,_=>none
| k+1,x6,x7,x8=>
 if 0<x6 then
  (xV AA x7).bind fun y4=>
  match y4 with
  | Sum.inr pv4=>((unW 93 pv4).bind fun e2=>some ((⟨0,[],[],0⟩:AB),4)).bind fun r=>some (Sum.inr r)
  | Sum.inl y4=>
  (cY (x8++[y4.2])).bind fun z1=>
  (chk (x6 - 1)).bind fun z2=>
  nT AA k z2 y4.1 z1
 else
  some (Sum.inl (x7,x8))
def nN (AA:Nat):Nat->Int->(List Int)->(List AL)->Option ((List Int × List AL) ⊕ (AB × Int))
| 0,_,_,_=>none
| k+1,x14,x15,x16=>
 if 0<x14 then
  (uT AA x15).bind fun y6=>
  match y6 with
  | Sum.inr pv6=>((unW 93 pv6).bind fun e6=>some ((⟨0,[],[],0⟩:AB),4)).bind fun r=>some (Sum.inr r)
  | Sum.inl y6=>
  (cY (x16++[y6.2])).bind fun z3=>
  (chk (x14 - 1)).bind fun z4=>
  nN AA k z4 y6.1 z3
 else
  some (Sum.inl (x15,x16))
def mJ (AA:Nat) (a0:List Int):Option (AB × Int):=
 if 400000<(a0.length:Int)then
  some ((⟨0,[],[],0⟩:AB),3)
 else
  (eO AA a0).bind fun y1=>
  match y1 with
  | Sum.inr pv1=>(unW 93 pv1).bind fun e10=>some ((⟨0,[],[],0⟩:AB),4)
  | Sum.inl y1=>
  (eO AA y1.1).bind fun y2=>
  match y2 with
  | Sum.inr pv2=>(unW 93 pv2).bind fun e9=>some ((⟨0,[],[],0⟩:AB),4)
  | Sum.inl y2=>
  ((eO AA y2.1).bind fun y3=>
  match y3 with
  | Sum.inr pv3=>((unW 93 pv3).bind fun e4=>some ((⟨0,[],[],0⟩:AB),4)).bind fun r=>some (Sum.inr r)
  | Sum.inl y3=>
  nT AA AA y3.2 y3.1 []).bind fun o=>match o with
  | Sum.inr r=>some r
  | Sum.inl (x1,x2)=>
  ((eO AA x1).bind fun y5=>
  match y5 with
  | Sum.inr pv5=>((unW 93 pv5).bind fun e8=>some ((⟨0,[],[],0⟩:AB),4)).bind fun r=>some (Sum.inr r)
  | Sum.inl y5=>
  nN AA AA y5.2 y5.1 []).bind fun o=>match o with
  | Sum.inr r=>some r
  | Sum.inl (x9,x10)=>
  (sM AA (⟨y1.2,x2,x10,y2.2⟩:AB) (decide ((x9.length:Int)=0))).bind fun y7=>
  some ((⟨y7.1.AH,y7.1.AD,y7.1.Code,y7.1.AG⟩:AB),y7.2)
theorem aHS (AA:Nat)  (a0:List Int) (r:AB × Int) (H:mJ AA a0=some r):FnS Tryz.prog 10 [fSl (aJ .u8) a0] [] (dI [fSt dX r.1,fI r.2]) (fun _=>[]):=by
 unfold mJ at H
 refine aFe Tryz.func10 rfl Tryz.ntmps10 rfl (fun β=>?_)
 refine Z1 ?_
 refine Tn (bU rfl tU rfl) fun b1=>?_
 refine Tn (bU rfl ty_ze_29 rfl) fun b2=>?_
 refine Z1 ?_
 refine aK ?_
 refine I5 H (fun c1 H=>?_) fun c1 H=>?_
 refine Z2 ?_
 refine Yy (dJ (ψs:=[fI 0,fEq (.slice none 0 0),fEq (.slice none 0 0),fI 0]) rfl lX rfl bE.nil rfl) ?_
 refine aP ?_
 refine bT (φs':=[fI 0,fEq (.slice none 0 0),fEq (.slice none 0 0),fI 0]) a1I rfl rfl (has rfl) (has rfl) (aH (aD a1I) (aH (aD a1I) (aH (aD a1I) (aH (aD a1I) bL)))) (sz rfl) rfl rfl rfl ?_
 refine aP ?_
 refine bJ (φs':=[fI 3]) a1I rfl rfl (has rfl) (has rfl) (aD a1I) (sz rfl) rfl rfl ?_
 refine Z2 ?_
 cases H
 refine aC [1,0] (by decide) ?_
 exact T_outC2 (mT rfl rfl rfl (ag rfl) rfl (sc rfl) (gV (aG.cons Ent.rfl (aG.cons cF (aG.cons cF (aG.cons Ent.rfl aG.nil))))) Ent.rfl)
 refine Z4 ?_
 refine Yy (vG rfl (aM.cons hh (aM.cons hh aM.nil))) ?_
 refine aEo (vs:=[ptr b1,ptr b2]) a1I rfl rfl (has rfl) ?_
 refine Z3 ?_
 refine Tn (bU rfl aDR rfl) fun b3=>?_
 refine bJ (φs':=[fSl (aJ .u8) a0]) a1I rfl rfl (has rfl) (has rfl) (cA) (sz rfl) rfl rfl ?_
 refine B2 H fun y1 h1 H=>?_
 rcases y1 with y1 | pv1 <;> dsimp only at H
 refine Tc (cR _ _ _ _ h1).s ?_
 refine Z1 ?_
 refine aQ ?_
 refine bJ (φs':=[fI y1.2,fEq (.slice none 0 0),fEq (.slice none 0 0),fI 0]) a1I rfl rfl (has rfl) (has rfl) (aD a1I) (sz rfl) rfl rfl ?_
 refine Z2 ?_
 refine aP ?_
 refine bz H fun y2 h2 H=>?_
 rcases y2 with y2 | pv2 <;> dsimp only at H
 refine Tc (cR _ _ _ _ h2).s ?_
 refine Z1 ?_
 refine aP ?_
 refine bJ (φs':=[fI y1.2,fEq (.slice none 0 0),fEq (.slice none 0 0),fI y2.2]) a1I rfl rfl (has rfl) (has rfl) (aD a1I) (sz rfl) rfl rfl ?_
 revert H;refine B1z fun o1 H Hr1=>?_
 refine aO (ι:=List Int × List AO × Value) (fun i=>o1=Sum.inl (i.1,i.2.1)) (fun i=>[(2,fEq (ptr b1)),(3,fEq (ptr b2)),(4,fEq (ptr b3))]) (fun i=>[aA b3 72 [fSl (aJ .u8) i.1],aA b1 25 [fI y1.2,fEq i.2.2,fEq (.slice none 0 0),fI y2.2],aA b2 29 [fI 0],aB i.2.2 78 aE i.2.1]) ?_ ?_
 refine Z1 ?_
 refine aP ?_
 revert H;refine bs fun y3 h3 H=>?_
 rcases y3 with y3 | pv3 <;> dsimp only at H
 refine Tc (cR _ _ _ _ h3).s ?_
 refine Z3 ?_
 refine dQ aE 78 ?_
 refine aC [1,2,3,0] (by decide) ?_
 refine Th (ι:=Int × List Int × List AO × Value) (fun i=>nT AA i.1 i.2.1 i.2.2.1 i.2.2.2.1=_) (fun i=>[(2,fEq (ptr b1)),(3,fEq (ptr b2)),(4,fEq (ptr b3)),(5,fI i.2.1)]) (fun i=>[aA b3 72 [fSl (aJ .u8) i.2.2.1],aA b1 25 [fI y1.2,fEq i.2.2.2.2,fEq (.slice none 0 0),fI y2.2],aA b2 29 [fI 0],aB i.2.2.2.2 78 aE i.2.2.2.1]) (AA,y3.2,y3.1,[],(.slice none 0 0)) H (fun _ h=>nomatch h) ?_
 clear H;rintro k1 ⟨x6,x7,x8,v3⟩ H;dsimp only at H ⊢;rw [nT]at H
 refine rc 3 fun _=>?_
 refine aK ?_
 revert H;refine I4z (fun c2 H=>?_) fun c2 H=>?_
 refine Z3 ?_
 refine aK ?_
 revert H;refine B1z fun y4 h4 H=>?_
 rcases y4 with y4 | pv4 <;> dsimp only at H
 apply bQ (ods:=[_,_,_,_]) 4 0 4 bM rfl rfl rfl
 refine ND ?_
 refine M2 ?_
 intros
 refine nK (od:=odC [0] true (fSt aE y4.2) [aA b3 72 [fSl (aJ .u8) y4.1]]) (Φ:=fSt aE y4.2) (p:=0) rfl (fun _=>rfl) a1I rfl rfl rfl (has rfl) (aM.cons (has rfl) aM.nil) rfl (cb rfl) (aCZ AA b3 x7 (Sum.inl y4) h4).s (fun _=>?_)
 refine Mf (φ:=fSl aE [y4.2]) (cE (t:=aE) (xs:=[y4.2]) rfl (et rfl) (aX.cons rfl (has rfl) bW aX.nil) rfl rfl rfl) (fun b=>cD) fun _=>?_
 revert H;refine B1z fun z1 h5 H=>?_
 refine bD ?_
 refine lI (ys:=[y4.2]) a1I rfl rfl rfl (has rfl) (has rfl) (et rfl) rfl h5 (fun v5=>?_)
 refine rc 0 fun hc_v5=>?_
 refine Z1 ?_
 refine aQ ?_
 refine bJ (φs':=[fI y1.2,fEq v5,fEq (.slice none 0 0),fI y2.2]) a1I rfl rfl (has rfl) (has rfl) (aD hc_v5) (sz rfl) rfl rfl ?_
 revert H;refine B5z fun z2 h6 H=>?_
 refine Z3 ?_
 refine aC [2,0,3,1] (by decide) ?_
 exact Tm ((k1,z2,y4.1,z1,v5)) ⟨H,ls⟩
 exact fk
 kernel_rfl
 apply vU (ods:=[_,_]) 2 4 bM rfl rfl rfl rfl rfl
 refine ND ?_
 refine M2 ?_
 intros
 refine vO a1I rfl (has rfl) (aM.cons (has rfl) aM.nil) rfl (cb rfl) (aCZ AA b3 x7 (Sum.inr pv4) h4).pan
 exact fk
 kernel_rfl
 rfl
 revert H;refine B5z fun r1 H e1=>?_
 cases e1;cases Hr1
 have H0:=H;clear H;obtain⟨e2,h7,H⟩:=bind_some H0;clear H0;have hv_e2:=fR h7;subst hv_e2
 cases H
 refine aC [0,1] (by decide) ?_
 exact fZ (eZ (vs:=[ptr b1,ptr b2]) (u:= .panicking [{ v:= .iface 93 (.agg #[]),recovered:=false }]) (by simp) (cb rfl) (sZ _ _ _ _ _ _ _) rfl (mT rfl rfl rfl (ag rfl) rfl (sc rfl) (gV (aG.cons Ent.rfl (aG.cons cF (aG.cons cF (aG.cons Ent.rfl aG.nil))))) Ent.rfl))
 refine Z6 ?_
 exact Tm ((x7,x8,v3)) (ij H)
 refine Tp (cR _ _ _ _ h3).pan ?_
 revert H;refine B2z fun r2 H e3=>?_
 cases e3;cases Hr1
 have H0:=H;clear H;obtain⟨e4,h8,H⟩:=bind_some H0;clear H0;have hv_e4:=fR h8;subst hv_e4
 cases H
 exact fZ (eZ (vs:=[ptr b1,ptr b2]) (u:= .panicking [{ v:= .iface 93 (.agg #[]),recovered:=false }]) (by simp) (cb rfl) (sZ _ _ _ _ _ _ _) rfl (mT rfl rfl rfl (ag rfl) rfl (sc rfl) (gV (aG.cons Ent.rfl (aG.cons cF (aG.cons cF (aG.cons Ent.rfl aG.nil))))) Ent.rfl))
 rintro⟨x1,x2,v1⟩ hi;subst o1;replace H:=Hr1;clear Hr1;try dsimp only at H ⊢
 refine rc 3 fun _=>?_
 revert H;refine bs fun o2 H Hr2=>?_
 refine aO (ι:=List Int × List AL × Value) (fun i=>o2=Sum.inl (i.1,i.2.1)) (fun i=>[(2,fEq (ptr b1)),(3,fEq (ptr b2)),(4,fEq (ptr b3))]) (fun i=>[aA b3 72 [fSl (aJ .u8) i.1],aA b1 25 [fI y1.2,fEq v1,fEq i.2.2,fI y2.2],aA b2 29 [fI 0],aB v1 78 aE x2,aB i.2.2 54 aF i.2.1]) ?_ ?_
 revert H;refine B1z fun y5 h9 H=>?_
 rcases y5 with y5 | pv5 <;> dsimp only at H
 refine Tc (cR _ _ _ _ h9).s ?_
 refine Z3 ?_
 refine dQ aF 54 ?_
 refine aC [1,2,3,4,0] (by decide) ?_
 refine Th (ι:=Int × List Int × List AL × Value) (fun i=>nN AA i.1 i.2.1 i.2.2.1 i.2.2.2.1=_) (fun i=>[(2,fEq (ptr b1)),(3,fEq (ptr b2)),(4,fEq (ptr b3)),(6,fI i.2.1)]) (fun i=>[aA b3 72 [fSl (aJ .u8) i.2.2.1],aA b1 25 [fI y1.2,fEq v1,fEq i.2.2.2.2,fI y2.2],aA b2 29 [fI 0],aB v1 78 aE x2,aB i.2.2.2.2 54 aF i.2.2.2.1]) (AA,y5.2,y5.1,[],(.slice none 0 0)) H (fun _ h=>nomatch h) ?_
 clear H;rintro k2 ⟨x14,x15,x16,v8⟩ H;dsimp only at H ⊢;rw [nN]at H
 refine rc 4 fun _=>?_
 refine aK ?_
 revert H;refine I4z (fun c3 H=>?_) fun c3 H=>?_
 refine Z3 ?_
 refine aK ?_
 revert H;refine B1z fun y6 h10 H=>?_
 rcases y6 with y6 | pv6 <;> dsimp only at H
 apply bQ (ods:=[_,_,_,_]) 4 0 5 bM rfl rfl rfl
 refine ND ?_
 refine M2 ?_
 intros
 refine nK (od:=odC [0] true (fSt aF y6.2) [aA b3 72 [fSl (aJ .u8) y6.1]]) (Φ:=fSt aF y6.2) (p:=0) rfl (fun _=>rfl) a1I rfl rfl rfl (has rfl) (aM.cons (has rfl) aM.nil) rfl (cb rfl) (aDa AA b3 x15 (Sum.inl y6) h10).s (fun _=>?_)
 refine Mf (φ:=fSl aF [y6.2]) (cE (t:=aF) (xs:=[y6.2]) rfl (et rfl) (aX.cons rfl (has rfl) bW aX.nil) rfl rfl rfl) (fun b=>cD) fun _=>?_
 revert H;refine B1z fun z3 h11 H=>?_
 refine aR ?_
 refine lI (ys:=[y6.2]) a1I rfl rfl rfl (has rfl) (has rfl) (et rfl) rfl h11 (fun v10=>?_)
 refine rc 0 fun hc_v10=>?_
 refine Z1 ?_
 refine aQ ?_
 refine bJ (φs':=[fI y1.2,fEq v1,fEq v10,fI y2.2]) a1I rfl rfl (has rfl) (has rfl) (aD hc_v10) (sz rfl) rfl rfl ?_
 revert H;refine B5z fun z4 h12 H=>?_
 refine Z3 ?_
 refine aC [2,0,3,4,1] (by decide) ?_
 exact Tm ((k2,z4,y6.1,z3,v10)) ⟨H,ls⟩
 exact fk
 kernel_rfl
 apply vU (ods:=[_,_]) 2 5 bM rfl rfl rfl rfl rfl
 refine ND ?_
 refine M2 ?_
 intros
 refine vO a1I rfl (has rfl) (aM.cons (has rfl) aM.nil) rfl (cb rfl) (aDa AA b3 x15 (Sum.inr pv6) h10).pan
 exact fk
 kernel_rfl
 rfl
 revert H;refine B5z fun r3 H e5=>?_
 cases e5;cases Hr2
 have H0:=H;clear H;obtain⟨e6,h13,H⟩:=bind_some H0;clear H0;have hv_e6:=fR h13;subst hv_e6
 cases H
 refine aC [0,1] (by decide) ?_
 exact fZ (eZ (vs:=[ptr b1,ptr b2]) (u:= .panicking [{ v:= .iface 93 (.agg #[]),recovered:=false }]) (by simp) (cb rfl) (sZ _ _ _ _ _ _ _) rfl (mT rfl rfl rfl (ag rfl) rfl (sc rfl) (gV (aG.cons Ent.rfl (aG.cons cF (aG.cons cF (aG.cons Ent.rfl aG.nil))))) Ent.rfl))
 refine Z6 ?_
 exact Tm ((x15,x16,v8)) (ij H)
 refine Tp (cR _ _ _ _ h9).pan ?_
 revert H;refine B2z fun r4 H e7=>?_
 cases e7;cases Hr2
 have H0:=H;clear H;obtain⟨e8,h14,H⟩:=bind_some H0;clear H0;have hv_e8:=fR h14;subst hv_e8
 cases H
 refine aC [0,1] (by decide) ?_
 exact fZ (eZ (vs:=[ptr b1,ptr b2]) (u:= .panicking [{ v:= .iface 93 (.agg #[]),recovered:=false }]) (by simp) (cb rfl) (sZ _ _ _ _ _ _ _) rfl (mT rfl rfl rfl (ag rfl) rfl (sc rfl) (gV (aG.cons Ent.rfl (aG.cons cF (aG.cons cF (aG.cons Ent.rfl aG.nil))))) Ent.rfl))
 rintro⟨x9,x10,v6⟩ hi;subst o2;replace H:=Hr2;clear Hr2;try dsimp only at H ⊢
 refine rc 4 fun _=>?_
 refine Z5 ?_
 refine bD ?_
 refine cP (φ:=fSl aE x2) (v:=v1) [] cD (fun _ h=>nomatch h) ?_
 refine aQ ?_
 refine aP ?_
 refine eX (φs':=[fI y1.2,fSl aE x2,fEq v6,fI y2.2]) (i:=1) rfl rfl ?_
 refine iY 39 (ψ:=dW [fI y1.2,fEq v1,fEq v6,fI y2.2]) rfl (jV (i:=1) (φs:=[fI y1.2,fEq v1,fEq v6,fI y2.2]) (φs':=[fI y1.2,fSl aE x2,fEq v6,fI y2.2]) rfl rfl) ?_
 refine cL ?_
 refine bD ?_
 refine cP (φ:=fSl aF x10) (v:=v6) [] cD (fun _ h=>nomatch h) ?_
 refine eX (φs':=[fI y1.2,fSl aE x2,fSl aF x10,fI y2.2]) (i:=2) rfl rfl ?_
 refine iY 39 (ψ:=dW [fI y1.2,fSl aE x2,fEq v6,fI y2.2]) rfl (jV (i:=2) (φs:=[fI y1.2,fSl aE x2,fEq v6,fI y2.2]) (φs':=[fI y1.2,fSl aE x2,fSl aF x10,fI y2.2]) rfl rfl) ?_
 refine cL ?_
 refine bz H fun y7 h15 H=>?_
 refine Tc (aHo _ _ _ _ h15) ?_
 refine Z2 ?_
 refine bT (φs':=[fI y7.1.AH,fSl aE y7.1.AD,fSl aF y7.1.Code,fI y7.1.AG]) a1I rfl rfl (has rfl) (has rfl) (aH (aD a1I) (aH (cA) (aH (cA) (aH (aD a1I) bL)))) (sz rfl) rfl rfl rfl ?_
 refine aQ ?_
 refine bJ (φs':=[fI y7.2]) a1I rfl rfl (has rfl) (has rfl) (aD a1I) (sz rfl) rfl rfl ?_
 refine Z2 ?_
 cases H
 refine aC [1,0] (by decide) ?_
 exact aCD (eZ (vs:=[ptr b1,ptr b2]) (u:= .returning) (by simp) (cb rfl) (aGj _ _ _ _ _ _ _) rfl (mT rfl rfl rfl (ag rfl) rfl (sc rfl) Ent.rfl Ent.rfl))
 refine Tp (cR _ _ _ _ h2).pan ?_
 refine Z1 ?_
 have H0:=H;clear H;obtain⟨e9,h16,H⟩:=bind_some H0;clear H0;have hv_e9:=fR h16;subst hv_e9
 cases H
 exact fZ (eZ (vs:=[ptr b1,ptr b2]) (u:= .panicking [{ v:= .iface 93 (.agg #[]),recovered:=false }]) (by simp) (cb rfl) (sZ _ _ _ _ _ _ _) rfl (mT rfl rfl rfl (ag rfl) rfl (sc rfl) (gV (aG.cons Ent.rfl (aG.cons cF (aG.cons cF (aG.cons Ent.rfl aG.nil))))) Ent.rfl))
 refine Tp (cR _ _ _ _ h1).pan ?_
 refine Z1 ?_
 have H0:=H;clear H;obtain⟨e10,h17,H⟩:=bind_some H0;clear H0;have hv_e10:=fR h17;subst hv_e10
 cases H
 refine aC [1,0] (by decide) ?_
 exact fZ (eZ (vs:=[ptr b1,ptr b2]) (u:= .panicking [{ v:= .iface 93 (.agg #[]),recovered:=false }]) (by simp) (cb rfl) (sZ _ _ _ _ _ _ _) rfl (mT rfl rfl rfl (ag rfl) rfl (sc rfl) (gV (aG.cons Ent.rfl (aG.cons cF (aG.cons cF (aG.cons Ent.rfl aG.nil))))) Ent.rfl))
def rP (a0:List Int) (a1:List Int):Nat->Int->Option ((Unit) ⊕ (Bool))
| 0,_=>none
| k+1,x2=>
 if x2<(a0.length:Int)then
  (idx a0 x2).bind fun y1=>
  (idx a1 x2).bind fun y2=>
  if y1≠y2 then
   (some false).bind fun r=>some (Sum.inr r)
  else
   (chk (x2+1)).bind fun z1=>
   rP a0 a1 k z1
 else
  some (Sum.inl ())
def oM (AA:Nat) (a0:List Int) (a1:List Int):Option (Bool):=
 if (a0.length:Int)≠(a1.length:Int)then
  some false
 else
  (rP a0 a1 AA 0).bind fun o=>match o with
  | Sum.inr r=>some r
  | Sum.inl _=>
  some true
theorem aDr (AA:Nat)  (a0:List Int) (a1:List Int) (r:Bool) (H:oM AA a0 a1=some r):FnS Tryz.prog 12 [fSl (aJ .u8) a0,fSl (aJ .u8) a1] [] (aL r) (fun _=>[]):=by
 unfold oM at H
 refine bY Tryz.func12 rfl Tryz.ntmps12 rfl (fun β=>?_)
 refine Z3 ?_
 refine aK ?_
 refine I7 H (fun c1 H=>?_) fun c1 H=>?_
 refine Z5 ?_
 cases H
 exact To
 revert H;refine B3z fun o1 H Hr1=>?_
 refine aO (ι:=Unit) (fun i=>o1=Sum.inl ()) (fun i=>[]) (fun i=>[]) ?_ ?_
 refine Z4 ?_
 refine Th (ι:=Int) (fun i=>rP a0 a1 i.1 i.2=_) (fun i=>[(0,fSl (aJ .u8) a0),(1,fSl (aJ .u8) a1),(5,fI i.2)]) (fun i=>[]) (AA,0) H (fun _ h=>nomatch h) ?_
 clear H;rintro k1 x2 H;dsimp only at H ⊢;rw [rP]at H
 refine aK ?_
 revert H;refine I6z (fun c2 H=>?_) fun c2 H=>?_
 refine Z3 ?_
 refine aK ?_
 refine Z1 ?_
 refine aK ?_
 revert H;refine bs fun y1 h1 H=>?_
 revert H;refine bs fun y2 h2 H=>?_
 apply bQ (ods:=[_,_,_,_,_,_,_,_,_]) 9 0 0 bM rfl rfl rfl
 refine ND ?_
 refine M8 ?_
 intros
 refine M1 ?_
 intros
 revert H;refine I2z (fun c3 H=>?_) fun c3 H=>?_
 revert H;refine fP fun r1 H e1=>?_
 cases e1;cases Hr1
 cases H
 exact To
 revert H;refine B6z fun z1 h3 H=>?_
 refine Z3 ?_
 exact Tm ((k1,z1)) ⟨H,ls⟩
 exact fk
 kernel_rfl
 refine Z6 ?_
 exact Tm (()) (ij H)
 rintro i hi;subst o1;replace H:=Hr1;clear Hr1;try dsimp only at H ⊢
 refine Z4 ?_
 cases H
 exact To
def mO (a0:bH):Nat->Int->Int->Int->Int->Option ((Int) ⊕ (bH × Int))
| 0,_,_,_,_=>none
| k+1,x6,x7,x8,x9=>
 if x8<6 then
  bif a0.bad then
   (some ((⟨a0.b,x9,true⟩:bH),0)).bind fun r=>some (Sum.inr r)
  else
   if (a0.b.length:Int)<=x9 then
    (some ((⟨a0.b,x9,true⟩:bH),0)).bind fun r=>some (Sum.inr r)
   else
    (idx a0.b x9).bind fun y1=>
    (chk (x9+1)).bind fun z1=>
    (jB .i64 (IntKind.wrap .i64 y1) 128).bind fun z2=>
    (chk (x7*z2)).bind fun z3=>
    (chk (x6+z3)).bind fun z4=>
    if (IntKind.wrap .i64 y1)<128 then
     (some ((⟨a0.b,z1,a0.bad⟩:bH),z4)).bind fun r=>some (Sum.inr r)
    else
     (chk (x7*128)).bind fun z5=>
     (chk (x8+1)).bind fun z6=>
     mO a0 k z4 z5 z6 z1
 else
  some (Sum.inl x9)
def dH (AA:Nat) (a0:bH):Option (bH × Int):=
 (mO a0 AA 0 1 0 a0.at_).bind fun o=>match o with
 | Sum.inr r=>some r
 | Sum.inl x1=>
 some ((⟨a0.b,x1,true⟩:bH),0)
theorem fQ (AA:Nat) (p0:Nat) (a0:bH) (r:bH × Int) (H:dH AA a0=some r):FnS Tryz.prog 38 [fEq (.pointer (some ⟨p0,0,none⟩))] [kO p0 a0] (fI r.2) (fun _=>[kO p0 r.1]):=by
 unfold dH at H
 refine bY Tryz.func38 rfl Tryz.ntmps38 rfl (fun β=>?_)
 refine eT ?_
 revert H;refine B7z fun o1 H Hr1=>?_
 refine aO (fun i=>o1=Sum.inl i) (fun i=>[(0,fEq (ptr p0))]) (fun i=>[aA p0 100 [fSl (aJ .u8) a0.b,fI i,aL a0.bad]]) ?_ ?_
 refine Z4 ?_
 refine Th (ι:=Int × Int × Int × Int) (fun i=>mO a0 i.1 i.2.1 i.2.2.1 i.2.2.2.1 i.2.2.2.2=_) (fun i=>[(0,fEq (ptr p0)),(3,fI i.2.1),(4,fI i.2.2.1),(5,fI i.2.2.2.1)]) (fun i=>[aA p0 100 [fSl (aJ .u8) a0.b,fI i.2.2.2.2,aL a0.bad]]) (AA,0,1,0,a0.at_) H (fun _ h=>nomatch h) ?_
 clear H;rintro k1 ⟨x6,x7,x8,x9⟩ H;dsimp only at H ⊢;rw [mO]at H
 refine aK ?_
 revert H;refine I4z (fun c1 H=>?_) fun c1 H=>?_
 refine Z3 ?_
 refine aK ?_
 refine Z1 ?_
 refine aK ?_
 refine aK ?_
 revert H;refine cs (fun c2 H=>?_) fun c2 H=>?_
 apply bQ (ods:=[_,_,_,_,_,_,_,_,_,_,_,_,_,_,_,_]) 16 0 1 bM rfl rfl rfl
 refine ND ?_
 refine M8 ?_
 intros
 refine M8 ?_
 intros
 refine Z7 ?_
 refine bJ (φs':=[fSl (aJ .u8) a0.b,fI x9,aL true]) a1I rfl rfl (has rfl) (has rfl) (aD a1I) (sz rfl) rfl rfl ?_
 revert H;refine fP fun r1 H e1=>?_
 cases e1;cases Hr1
 refine eG ?_
 cases H
 exact To
 exact fk
 kernel_rfl
 apply bQ (ods:=[_,_,_,_,_,_,_,_,_,_,_,_,_,_,_,_]) 16 0 1 bM rfl rfl rfl
 refine ND ?_
 refine M8 ?_
 intros
 refine M8 ?_
 intros
 revert H;refine I2z (fun c3 H=>?_) fun c3 H=>?_
 refine Z5 ?_
 refine bJ (φs':=[fSl (aJ .u8) a0.b,fI x9,aL true]) a1I rfl rfl (has rfl) (has rfl) (aD a1I) (sz rfl) rfl rfl ?_
 revert H;refine fP fun r2 H e2=>?_
 cases e2;cases Hr1
 refine eG ?_
 cases H
 exact To
 refine Z3 ?_
 refine aK ?_
 revert H;refine bs fun y1 h1 H=>?_
 apply bQ (ods:=[_,_,_,_,_,_,_,_,_,_,_,_]) 12 0 1 bM rfl rfl rfl
 refine ND ?_
 refine M8 ?_
 intros
 refine M2 ?_
 intros
 refine My (sI rfl hh sN tX) fun _=>?_
 refine M1 ?_
 intros
 revert H;refine B7z fun z1 h2 H=>?_
 refine Z3 ?_
 refine bJ (φs':=[fSl (aJ .u8) a0.b,fI z1,aL a0.bad]) a1I rfl rfl (has rfl) (has rfl) (aD a1I) (sz rfl) rfl rfl ?_
 revert H;refine B5z fun z2 h3 H=>?_
 refine Yy (uF rfl hh hh h3) ?_
 revert H;refine bs fun z3 h4 H=>?_
 revert H;refine B1z fun z4 h5 H=>?_
 refine Z3 ?_
 refine aK ?_
 revert H;refine I4z (fun c4 H=>?_) fun c4 H=>?_
 revert H;refine jC fun r3 H e3=>?_
 cases e3;cases Hr1
 refine eG ?_
 cases H
 exact To
 revert H;refine B5z fun z5 h6 H=>?_
 revert H;refine B7z fun z6 h7 H=>?_
 refine Z3 ?_
 exact Tm ((k1,z4,z5,z6,z1)) ⟨H,ls⟩
 exact fk
 kernel_rfl
 exact fk
 kernel_rfl
 refine Z6 ?_
 exact Tm (x9) (ij H)
 rintro x1 hi;subst o1;replace H:=Hr1;clear Hr1;try dsimp only at H ⊢
 refine Z4 ?_
 refine bJ (φs':=[fSl (aJ .u8) a0.b,fI x1,aL true]) a1I rfl rfl (has rfl) (has rfl) (aD a1I) (sz rfl) rfl rfl ?_
 refine Z5 ?_
 refine eG ?_
 cases H
 exact To
open Go.SX Go.SW Go.Dt
def lQ (AA:Nat) (y1:bH × Int):Nat->Int->(List Int)->Int->Bool->(List Ad)->Option (List Int × Int × Bool × List Ad)
| 0,_,_,_,_,_=>none
| k+1,x28,x29,x30,x31,x32=>
 if x28<y1.2 then
  bif x31 then
   some (x29,x30,x31,x32)
  else
   (dH AA (⟨x29,x30,x31⟩:bH)).bind fun y2=>
   (dH AA (⟨y2.1.b,y2.1.at_,y2.1.bad⟩:bH)).bind fun y3=>
   (cY (x32++[(⟨y2.2,y3.2⟩:Ad)])).bind fun z1=>
   (chk (x28+1)).bind fun z2=>
   lQ AA y1 k z2 y3.1.b y3.1.at_ y3.1.bad z1
 else
  some (x29,x30,x31,x32)
def mD (AA:Nat) (y4:bH × Int):Nat->Int->(List Int)->Int->Bool->(List Ab)->Option (List Int × Int × Bool × List Ab)
| 0,_,_,_,_,_=>none
| k+1,x42,x43,x44,x45,x46=>
 if x42<y4.2 then
  bif x45 then
   some (x43,x44,x45,x46)
  else
   (dH AA (⟨x43,x44,x45⟩:bH)).bind fun y5=>
   (dH AA (⟨y5.1.b,y5.1.at_,y5.1.bad⟩:bH)).bind fun y6=>
   (cY (x46++[(⟨y5.2,y6.2⟩:Ab)])).bind fun z3=>
   (chk (x42+1)).bind fun z4=>
   mD AA y4 k z4 y6.1.b y6.1.at_ y6.1.bad z3
 else
  some (x43,x44,x45,x46)
def mH (AA:Nat) (y10:bH × Int):Nat->Int->(List Int)->Int->Bool->(List Int)->Option (List Int × Int × Bool × List Int)
| 0,_,_,_,_,_=>none
| k+1,x74,x75,x76,x77,x78=>
 if x74<y10.2 then
  bif x77 then
   some (x75,x76,x77,x78)
  else
   (dH AA (⟨x75,x76,x77⟩:bH)).bind fun y11=>
   (cY (x78++[y11.2])).bind fun z5=>
   (chk (x74+1)).bind fun z6=>
   mH AA y10 k z6 y11.1.b y11.1.at_ y11.1.bad z5
 else
  some (x75,x76,x77,x78)
def lE (AA:Nat) (y7:bH × Int):Nat->Int->(List Int)->Int->Bool->(List AZ)->Option (List Int × Int × Bool × List AZ)
| 0,_,_,_,_,_=>none
| k+1,x56,x57,x58,x59,x60=>
 if x56<y7.2 then
  bif x59 then
   some (x57,x58,x59,x60)
  else
   ((dH AA (⟨x57,x58,x59⟩:bH)).bind fun y8=>
   (dH AA (⟨y8.1.b,y8.1.at_,y8.1.bad⟩:bH)).bind fun y9=>
   (dH AA (⟨y9.1.b,y9.1.at_,y9.1.bad⟩:bH)).bind fun y10=>
   (mH AA y10 AA 0 y10.1.b y10.1.at_ y10.1.bad []).bind fun (x65,x66,x67,x68)=>
   (cY (x60++[(⟨y8.2,x68,y9.2⟩:AZ)])).bind fun z7=>
   some (z7,x65,x66,x67)).bind fun (x61,x62,x63,x64)=>
   (chk (x56+1)).bind fun z8=>
   lE AA y7 k z8 x62 x63 x64 x61
 else
  some (x57,x58,x59,x60)
def mL (AA:Nat) (a1:Int):Nat->(List AO)->Int->(List Int)->Int->Bool->Option (List AO × List Int × Int × Bool)
| 0,_,_,_,_,_=>none
| k+1,x10,x11,x12,x13,x14=>
 if x11<a1 then
  bif x14 then
   some (x10,x12,x13,x14)
  else
   ((dH AA (⟨x12,x13,x14⟩:bH)).bind fun y1=>
   (lQ AA y1 AA 0 y1.1.b y1.1.at_ y1.1.bad []).bind fun (x19,x20,x21,x22)=>
   (dH AA (⟨x19,x20,x21⟩:bH)).bind fun y4=>
   (mD AA y4 AA 0 y4.1.b y4.1.at_ y4.1.bad []).bind fun (x33,x34,x35,x36)=>
   (dH AA (⟨x33,x34,x35⟩:bH)).bind fun y7=>
   (lE AA y7 AA 0 y7.1.b y7.1.at_ y7.1.bad []).bind fun (x47,x48,x49,x50)=>
   (cY (x10++[(⟨x22,x36,x50⟩:AO)])).bind fun z9=>
   some (z9,x47,x48,x49)).bind fun (x15,x16,x17,x18)=>
   (chk (x11+1)).bind fun z10=>
   mL AA a1 k x15 z10 x16 x17 x18
 else
  some (x10,x12,x13,x14)
def yE (AA:Nat) (a0:bH) (a1:Int):Option (bH × List AO):=
 (mL AA a1 AA [] 0 a0.b a0.at_ a0.bad).bind fun (x1,x2,x3,x4)=>
 some ((⟨x2,x3,x4⟩:bH),x1)
theorem aIt (AA:Nat) (p0:Nat) (a0:bH) (a1:Int) (r:bH × List AO) (H:yE AA a0 a1=some r):FnS Tryz.prog 39 [fEq (.pointer (some ⟨p0,0,none⟩)),fI a1] [kO p0 a0] (fSl aE r.2) (fun _=>[kO p0 r.1]):=by
 unfold yE at H
 refine bY Tryz.func39 rfl Tryz.ntmps39 rfl (fun β=>?_)
 refine eT ?_
 revert H;refine B6z fun o1 H Hr1=>?_
 refine aO (ι:=List AO × List Int × Int × Bool × Value) (fun i=>o1=(i.1,i.2.1,i.2.2.1,i.2.2.2.1)) (fun i=>[(0,fEq (ptr p0)),(5,fEq i.2.2.2.2)]) (fun i=>[aA p0 100 [fSl (aJ .u8) i.2.1,fI i.2.2.1,aL i.2.2.2.1],aB i.2.2.2.2 78 aE i.1]) ?_ ?_
 refine Z4 ?_
 refine dQ aE 78 ?_
 refine aC [1,0] (by decide) ?_
 refine Th (ι:=List AO × Int × List Int × Int × Bool × Value) (fun i=>mL AA a1 i.1 i.2.1 i.2.2.1 i.2.2.2.1 i.2.2.2.2.1 i.2.2.2.2.2.1=_) (fun i=>[(0,fEq (ptr p0)),(1,fI a1),(5,fEq i.2.2.2.2.2.2),(6,fI i.2.2.1)]) (fun i=>[aA p0 100 [fSl (aJ .u8) i.2.2.2.1,fI i.2.2.2.2.1,aL i.2.2.2.2.2.1],aB i.2.2.2.2.2.2 78 aE i.2.1]) (AA,[],0,a0.b,a0.at_,a0.bad,(.slice none 0 0)) H (fun _ h=>nomatch h) ?_
 clear H;rintro k1 ⟨x10,x11,x12,x13,x14,v3⟩ H;dsimp only at H ⊢;rw [mL]at H
 refine rc 1 fun _=>?_
 refine aK ?_
 revert H;refine I5z (fun c1 H=>?_) fun c1 H=>?_
 refine Z7 ?_
 revert H;refine cs (fun c2 H=>?_) fun c2 H=>?_
 refine Z6 ?_
 exact Tm ((x10,x12,x13,x14,v3)) (ij H)
 revert H;refine B3z fun o2 H Hr2=>?_
 refine aO (ι:=List AO × List Int × Int × Bool × Value) (fun i=>o2=(i.1,i.2.1,i.2.2.1,i.2.2.2.1)) (fun i=>[(0,fEq (ptr p0)),(1,fI a1),(6,fI x11),(5,fEq i.2.2.2.2)]) (fun i=>[aA p0 100 [fSl (aJ .u8) i.2.1,fI i.2.2.1,aL i.2.2.2.1],aB i.2.2.2.2 78 aE i.1]) ?_ ?_
 refine Z2 ?_
 refine Tn (bU rfl nS rfl) fun b1=>?_
 refine Z3 ?_
 refine aP ?_
 refine eG ?_
 revert H;refine bs fun y1 h1 H=>?_
 refine Tc (fQ _ _ _ _ h1) ?_
 refine eT ?_
 revert H;refine B2z fun o3 H Hr3=>?_
 refine aO (ι:=List Int × Int × Bool × List Ad × Value) (fun i=>o3=(i.1,i.2.1,i.2.2.1,i.2.2.2.1)) (fun i=>[(0,fEq (ptr p0)),(1,fI a1),(5,fEq v3),(6,fI x11),(7,fEq (ptr b1))]) (fun i=>[aA p0 100 [fSl (aJ .u8) i.1,fI i.2.1,aL i.2.2.1],aA b1 78 [fEq i.2.2.2.2,fEq (.slice none 0 0),fEq (.slice none 0 0)],aB v3 78 aE x10,aB i.2.2.2.2 80 aS i.2.2.2.1]) ?_ ?_
 refine Z4 ?_
 refine dQ aS 80 ?_
 refine aC [1,2,3,0] (by decide) ?_
 refine Th (ι:=Int × List Int × Int × Bool × List Ad × Value) (fun i=>lQ AA y1 i.1 i.2.1 i.2.2.1 i.2.2.2.1 i.2.2.2.2.1 i.2.2.2.2.2.1=_) (fun i=>[(0,fEq (ptr p0)),(1,fI a1),(5,fEq v3),(6,fI x11),(7,fEq (ptr b1)),(8,fI y1.2),(9,fI i.2.1)]) (fun i=>[aA p0 100 [fSl (aJ .u8) i.2.2.1,fI i.2.2.2.1,aL i.2.2.2.2.1],aA b1 78 [fEq i.2.2.2.2.2.2,fEq (.slice none 0 0),fEq (.slice none 0 0)],aB v3 78 aE x10,aB i.2.2.2.2.2.2 80 aS i.2.2.2.2.2.1]) (AA,0,y1.1.b,y1.1.at_,y1.1.bad,[],(.slice none 0 0)) H (fun _ h=>nomatch h) ?_
 clear H;rintro k2 ⟨x28,x29,x30,x31,x32,v7⟩ H;dsimp only at H ⊢;rw [lQ]at H
 refine rc 3 fun _=>?_
 refine aK ?_
 revert H;refine I5z (fun c3 H=>?_) fun c3 H=>?_
 refine Z7 ?_
 revert H;refine cs (fun c4 H=>?_) fun c4 H=>?_
 refine Z6 ?_
 exact Tm ((x29,x30,x31,x32,v7)) (ij H)
 refine Z3 ?_
 refine aK ?_
 refine Z3 ?_
 refine eG ?_
 revert H;refine bs fun y2 h2 H=>?_
 refine Tc (fQ _ _ _ _ h2) ?_
 refine eT ?_
 refine Z2 ?_
 refine eG ?_
 revert H;refine bs fun y3 h3 H=>?_
 apply bQ (ods:=[_,_,_,_,_,_,_]) 7 0 4 bM rfl rfl rfl
 refine ND ?_
 refine M4 ?_
 intros
 refine nK (od:=odC [0] true (fI y3.2) [kO p0 y3.1]) (Φ:=fI y3.2) (p:=0) rfl (fun _=>rfl) a1I rfl rfl rfl (has rfl) (aM.cons (has rfl) aM.nil) rfl (cb rfl) (fQ AA p0 y2.1 y3 h3) (fun _=>?_)
 refine My (dJ (ψs:=[fI y2.2,fI y3.2]) rfl aCE rfl (bE.cons (has rfl) (bO (aD a1I)) (bE.cons (has rfl) (bO (aD a1I)) bE.nil)) rfl) fun _=>?_
 refine Mf (φ:=fSl aS [(⟨y2.2,y3.2⟩:Ad)]) (cE (t:=aS) (xs:=[(⟨y2.2,y3.2⟩:Ad)]) rfl (et rfl) (aX.cons rfl (has rfl) bW aX.nil) rfl rfl rfl) (fun b=>cD) fun _=>?_
 refine Z1 ?_
 refine eT ?_
 revert H;refine bs fun z1 h4 H=>?_
 refine bD ?_
 refine lI (ys:=[(⟨y2.2,y3.2⟩:Ad)]) a1I rfl rfl rfl (has rfl) (has rfl) (et rfl) rfl h4 (fun v9=>?_)
 refine rc 0 fun hc_v9=>?_
 refine Z1 ?_
 refine aQ ?_
 refine bJ (φs':=[fEq v9,fEq (.slice none 0 0),fEq (.slice none 0 0)]) a1I rfl rfl (has rfl) (has rfl) (aD hc_v9) (sz rfl) rfl rfl ?_
 revert H;refine B5z fun z2 h5 H=>?_
 refine Z3 ?_
 refine aC [2,0,3,1] (by decide) ?_
 exact Tm ((k2,z2,y3.1.b,y3.1.at_,y3.1.bad,z1,v9)) ⟨H,ls⟩
 exact fk
 kernel_rfl
 refine Z12 ?_
 refine Z1 ?_
 exact Tm ((x29,x30,x31,x32,v7)) (ij H)
 rintro⟨x19,x20,x21,x22,v5⟩ hi;subst o3;replace H:=Hr3;clear Hr3;try dsimp only at H ⊢
 refine rc 3 fun _=>?_
 refine Z2 ?_
 refine eG ?_
 revert H;refine bs fun y4 h6 H=>?_
 refine Tc (fQ _ _ _ _ h6) ?_
 refine eT ?_
 revert H;refine B2z fun o4 H Hr4=>?_
 refine aO (ι:=List Int × Int × Bool × List Ab × Value) (fun i=>o4=(i.1,i.2.1,i.2.2.1,i.2.2.2.1)) (fun i=>[(0,fEq (ptr p0)),(1,fI a1),(5,fEq v3),(6,fI x11),(7,fEq (ptr b1))]) (fun i=>[aA p0 100 [fSl (aJ .u8) i.1,fI i.2.1,aL i.2.2.1],aA b1 78 [fEq v5,fEq i.2.2.2.2,fEq (.slice none 0 0)],aB v3 78 aE x10,aB v5 80 aS x22,aB i.2.2.2.2 82 aV i.2.2.2.1]) ?_ ?_
 refine Z4 ?_
 refine dQ aV 82 ?_
 refine aC [1,2,3,4,0] (by decide) ?_
 refine Th (ι:=Int × List Int × Int × Bool × List Ab × Value) (fun i=>mD AA y4 i.1 i.2.1 i.2.2.1 i.2.2.2.1 i.2.2.2.2.1 i.2.2.2.2.2.1=_) (fun i=>[(0,fEq (ptr p0)),(1,fI a1),(5,fEq v3),(6,fI x11),(7,fEq (ptr b1)),(8,fI y4.2),(11,fI i.2.1)]) (fun i=>[aA p0 100 [fSl (aJ .u8) i.2.2.1,fI i.2.2.2.1,aL i.2.2.2.2.1],aA b1 78 [fEq v5,fEq i.2.2.2.2.2.2,fEq (.slice none 0 0)],aB v3 78 aE x10,aB v5 80 aS x22,aB i.2.2.2.2.2.2 82 aV i.2.2.2.2.2.1]) (AA,0,y4.1.b,y4.1.at_,y4.1.bad,[],(.slice none 0 0)) H (fun _ h=>nomatch h) ?_
 clear H;rintro k3 ⟨x42,x43,x44,x45,x46,v12⟩ H;dsimp only at H ⊢;rw [mD]at H
 refine rc 4 fun _=>?_
 refine aK ?_
 revert H;refine I5z (fun c5 H=>?_) fun c5 H=>?_
 refine Z7 ?_
 revert H;refine cs (fun c6 H=>?_) fun c6 H=>?_
 refine Z6 ?_
 exact Tm ((x43,x44,x45,x46,v12)) (ij H)
 refine Z3 ?_
 refine aK ?_
 refine Z3 ?_
 refine eG ?_
 revert H;refine bs fun y5 h7 H=>?_
 refine Tc (fQ _ _ _ _ h7) ?_
 refine eT ?_
 refine Z2 ?_
 refine eG ?_
 revert H;refine bs fun y6 h8 H=>?_
 apply bQ (ods:=[_,_,_,_,_,_,_]) 7 0 5 bM rfl rfl rfl
 refine ND ?_
 refine M4 ?_
 intros
 refine nK (od:=odC [0] true (fI y6.2) [kO p0 y6.1]) (Φ:=fI y6.2) (p:=0) rfl (fun _=>rfl) a1I rfl rfl rfl (has rfl) (aM.cons (has rfl) aM.nil) rfl (cb rfl) (fQ AA p0 y5.1 y6 h8) (fun _=>?_)
 refine My (dJ (ψs:=[fI y5.2,fI y6.2]) rfl aD0 rfl (bE.cons (has rfl) (bO (aD a1I)) (bE.cons (has rfl) (bO (aD a1I)) bE.nil)) rfl) fun _=>?_
 refine Mf (φ:=fSl aV [(⟨y5.2,y6.2⟩:Ab)]) (cE (t:=aV) (xs:=[(⟨y5.2,y6.2⟩:Ab)]) rfl (et rfl) (aX.cons rfl (has rfl) bW aX.nil) rfl rfl rfl) (fun b=>cD) fun _=>?_
 refine Z1 ?_
 refine eT ?_
 revert H;refine bs fun z3 h9 H=>?_
 refine aR ?_
 refine lI (ys:=[(⟨y5.2,y6.2⟩:Ab)]) a1I rfl rfl rfl (has rfl) (has rfl) (et rfl) rfl h9 (fun v14=>?_)
 refine rc 0 fun hc_v14=>?_
 refine Z1 ?_
 refine aQ ?_
 refine bJ (φs':=[fEq v5,fEq v14,fEq (.slice none 0 0)]) a1I rfl rfl (has rfl) (has rfl) (aD hc_v14) (sz rfl) rfl rfl ?_
 revert H;refine B5z fun z4 h10 H=>?_
 refine Z3 ?_
 refine aC [2,0,3,4,1] (by decide) ?_
 exact Tm ((k3,z4,y6.1.b,y6.1.at_,y6.1.bad,z3,v14)) ⟨H,ls⟩
 exact fk
 kernel_rfl
 refine Z12 ?_
 refine Z1 ?_
 exact Tm ((x43,x44,x45,x46,v12)) (ij H)
 rintro⟨x33,x34,x35,x36,v10⟩ hi;subst o4;replace H:=Hr4;clear Hr4;try dsimp only at H ⊢
 refine rc 4 fun _=>?_
 refine Z2 ?_
 refine eG ?_
 revert H;refine bs fun y7 h11 H=>?_
 refine Tc (fQ _ _ _ _ h11) ?_
 refine eT ?_
 revert H;refine B2z fun o5 H Hr5=>?_
 refine aO (ι:=List Int × Int × Bool × List AZ × Value) (fun i=>o5=(i.1,i.2.1,i.2.2.1,i.2.2.2.1)) (fun i=>[(0,fEq (ptr p0)),(1,fI a1),(5,fEq v3),(6,fI x11),(7,fEq (ptr b1))]) (fun i=>[aA p0 100 [fSl (aJ .u8) i.1,fI i.2.1,aL i.2.2.1],aA b1 78 [fEq v5,fEq v10,fEq i.2.2.2.2],aB v3 78 aE x10,aB v5 80 aS x22,aB v10 82 aV x36,aB i.2.2.2.2 84 aY i.2.2.2.1]) ?_ ?_
 refine Z4 ?_
 refine dQ aY 84 ?_
 refine aC [1,2,3,4,5,0] (by decide) ?_
 refine Th (ι:=Int × List Int × Int × Bool × List AZ × Value) (fun i=>lE AA y7 i.1 i.2.1 i.2.2.1 i.2.2.2.1 i.2.2.2.2.1 i.2.2.2.2.2.1=_) (fun i=>[(0,fEq (ptr p0)),(1,fI a1),(5,fEq v3),(6,fI x11),(7,fEq (ptr b1)),(8,fI y7.2),(13,fI i.2.1)]) (fun i=>[aA p0 100 [fSl (aJ .u8) i.2.2.1,fI i.2.2.2.1,aL i.2.2.2.2.1],aA b1 78 [fEq v5,fEq v10,fEq i.2.2.2.2.2.2],aB v3 78 aE x10,aB v5 80 aS x22,aB v10 82 aV x36,aB i.2.2.2.2.2.2 84 aY i.2.2.2.2.2.1]) (AA,0,y7.1.b,y7.1.at_,y7.1.bad,[],(.slice none 0 0)) H (fun _ h=>nomatch h) ?_
 clear H;rintro k4 ⟨x56,x57,x58,x59,x60,v17⟩ H;dsimp only at H ⊢;rw [lE]at H
 refine rc 5 fun _=>?_
 refine aK ?_
 revert H;refine I5z (fun c7 H=>?_) fun c7 H=>?_
 refine Z7 ?_
 revert H;refine cs (fun c8 H=>?_) fun c8 H=>?_
 refine Z6 ?_
 exact Tm ((x57,x58,x59,x60,v17)) (ij H)
 revert H;refine B3z fun o6 H Hr6=>?_
 refine aO (ι:=List AZ × List Int × Int × Bool × Value) (fun i=>o6=(i.1,i.2.1,i.2.2.1,i.2.2.2.1)) (fun i=>[(0,fEq (ptr p0)),(1,fI a1),(5,fEq v3),(6,fI x11),(7,fEq (ptr b1)),(8,fI y7.2),(13,fI x56)]) (fun i=>[aA b1 78 [fEq v5,fEq v10,fEq i.2.2.2.2],aA p0 100 [fSl (aJ .u8) i.2.1,fI i.2.2.1,aL i.2.2.2.1],aB v3 78 aE x10,aB v5 80 aS x22,aB v10 82 aV x36,aB i.2.2.2.2 84 aY i.1]) ?_ ?_
 refine Z2 ?_
 refine Tn (bU rfl mK rfl) fun b4=>?_
 refine Z3 ?_
 refine aP ?_
 refine eG ?_
 revert H;refine bs fun y8 h12 H=>?_
 refine Tc (fQ _ _ _ _ h12) ?_
 refine eT ?_
 refine Z1 ?_
 refine aP ?_
 refine bJ (φs':=[fI y8.2,fEq (.slice none 0 0),fI 0]) a1I rfl rfl (has rfl) (has rfl) (aD a1I) (sz rfl) rfl rfl ?_
 refine Z3 ?_
 refine aP ?_
 refine eG ?_
 revert H;refine bs fun y9 h13 H=>?_
 refine Tc (fQ _ _ _ _ h13) ?_
 refine eT ?_
 refine Z1 ?_
 refine aP ?_
 refine bJ (φs':=[fI y8.2,fEq (.slice none 0 0),fI y9.2]) a1I rfl rfl (has rfl) (has rfl) (aD a1I) (sz rfl) rfl rfl ?_
 refine Z3 ?_
 refine aP ?_
 refine eG ?_
 revert H;refine bs fun y10 h14 H=>?_
 refine Tc (fQ _ _ _ _ h14) ?_
 refine eT ?_
 revert H;refine B2z fun o7 H Hr7=>?_
 refine aO (ι:=List Int × Int × Bool × List Int × Value) (fun i=>o7=(i.1,i.2.1,i.2.2.1,i.2.2.2.1)) (fun i=>[(0,fEq (ptr p0)),(1,fI a1),(5,fEq v3),(6,fI x11),(7,fEq (ptr b1)),(8,fI y7.2),(13,fI x56),(14,fEq (ptr b4))]) (fun i=>[aA p0 100 [fSl (aJ .u8) i.1,fI i.2.1,aL i.2.2.1],aA b4 84 [fI y8.2,fEq i.2.2.2.2,fI y9.2],aA b1 78 [fEq v5,fEq v10,fEq v17],aB v3 78 aE x10,aB i.2.2.2.2 3 tI i.2.2.2.1,aB v5 80 aS x22,aB v10 82 aV x36,aB v17 84 aY x60]) ?_ ?_
 refine Z4 ?_
 refine dQ tI 3 ?_
 refine aC [1,2,3,4,0,5,6,7] (by decide) ?_
 refine Th (ι:=Int × List Int × Int × Bool × List Int × Value) (fun i=>mH AA y10 i.1 i.2.1 i.2.2.1 i.2.2.2.1 i.2.2.2.2.1 i.2.2.2.2.2.1=_) (fun i=>[(0,fEq (ptr p0)),(1,fI a1),(5,fEq v3),(6,fI x11),(7,fEq (ptr b1)),(8,fI y7.2),(13,fI x56),(14,fEq (ptr b4)),(15,fI y10.2),(16,fI i.2.1)]) (fun i=>[aA p0 100 [fSl (aJ .u8) i.2.2.1,fI i.2.2.2.1,aL i.2.2.2.2.1],aA b4 84 [fI y8.2,fEq i.2.2.2.2.2.2,fI y9.2],aA b1 78 [fEq v5,fEq v10,fEq v17],aB v3 78 aE x10,aB i.2.2.2.2.2.2 3 tI i.2.2.2.2.2.1,aB v5 80 aS x22,aB v10 82 aV x36,aB v17 84 aY x60]) (AA,0,y10.1.b,y10.1.at_,y10.1.bad,[],(.slice none 0 0)) H (fun _ h=>nomatch h) ?_
 clear H;rintro k5 ⟨x74,x75,x76,x77,x78,v21⟩ H;dsimp only at H ⊢;rw [mH]at H
 refine rc 4 fun _=>?_
 refine aK ?_
 revert H;refine I5z (fun c9 H=>?_) fun c9 H=>?_
 refine Z7 ?_
 revert H;refine cs (fun c10 H=>?_) fun c10 H=>?_
 refine Z6 ?_
 exact Tm ((x75,x76,x77,x78,v21)) (ij H)
 refine Z3 ?_
 refine aK ?_
 refine Z1 ?_
 refine eG ?_
 revert H;refine bs fun y11 h15 H=>?_
 apply bQ (ods:=[_,_,_,_,_]) 5 0 8 bM rfl rfl rfl
 refine ND ?_
 refine M3 ?_
 intros
 refine nK (od:=odC [0] true (fI y11.2) [kO p0 y11.1]) (Φ:=fI y11.2) (p:=0) rfl (fun _=>rfl) a1I rfl rfl rfl (has rfl) (aM.cons (has rfl) aM.nil) rfl (cb rfl) (fQ AA p0 (⟨x75,x76,x77⟩:bH) y11 h15) (fun _=>?_)
 refine Mf (φ:=fSl tI [y11.2]) (cE (t:=tI) (xs:=[y11.2]) rfl (et rfl) (aX.cons rfl (has rfl) (bO (aD a1I)) aX.nil) rfl rfl rfl) (fun b=>cD) fun _=>?_
 refine Z1 ?_
 refine eT ?_
 revert H;refine bs fun z5 h16 H=>?_
 refine aR ?_
 refine lI (ys:=[y11.2]) a1I rfl rfl rfl (has rfl) (has rfl) (et rfl) rfl h16 (fun v23=>?_)
 refine rc 0 fun hc_v23=>?_
 refine Z1 ?_
 refine aQ ?_
 refine bJ (φs':=[fI y8.2,fEq v23,fI y9.2]) a1I rfl rfl (has rfl) (has rfl) (aD hc_v23) (sz rfl) rfl rfl ?_
 revert H;refine B5z fun z6 h17 H=>?_
 refine Z3 ?_
 refine aC [2,0,3,4,1,5,6,7] (by decide) ?_
 exact Tm ((k5,z6,y11.1.b,y11.1.at_,y11.1.bad,z5,v23)) ⟨H,ls⟩
 exact fk
 kernel_rfl
 refine Z12 ?_
 refine Z1 ?_
 exact Tm ((x75,x76,x77,x78,v21)) (ij H)
 rintro⟨x65,x66,x67,x68,v19⟩ hi;subst o7;replace H:=Hr7;clear Hr7;try dsimp only at H ⊢
 refine rc 4 fun _=>?_
 refine Z4 ?_
 refine aR ?_
 refine cP (φ:=fSl tI x68) (v:=v19) [] cD (fun _ h=>nomatch h) ?_
 refine aQ ?_
 refine aP ?_
 refine eX (φs':=[fI y8.2,fSl tI x68,fI y9.2]) (i:=1) rfl rfl ?_
 refine iY 122 (ψ:=dW [fI y8.2,fEq v19,fI y9.2]) rfl (jV (i:=1) (φs:=[fI y8.2,fEq v19,fI y9.2]) (φs':=[fI y8.2,fSl tI x68,fI y9.2]) rfl rfl) ?_
 refine cL ?_
 refine Tn (cE (t:=aY) (xs:=[(⟨y8.2,x68,y9.2⟩:AZ)]) rfl (et rfl) (aX.cons rfl hh bW aX.nil) rfl rfl rfl) fun b6=>?_
 generalize (Value.slice (some ⟨b6,0,none⟩) _ _)=v24
 refine rc 0 fun _=>?_
 revert H;refine bs fun z7 h18 H=>?_
 refine T_fr7 ?_
 refine aP ?_
 refine gJ a1I rfl rfl rfl (has rfl) (has rfl) (et rfl) rfl h18 (fun v25=>?_)
 refine rc 0 fun hc_v25=>?_
 refine Z1 ?_
 refine bD ?_
 refine bJ (φs':=[fEq v5,fEq v10,fEq v25]) a1I rfl rfl (has rfl) (has rfl) (aD hc_v25) (sz rfl) rfl rfl ?_
 refine Z3 ?_
 refine aC [0,3,4,5,6,1] (by decide) ?_
 exact Tm ((z7,x65,x66,x67,v25)) (ij H)
 rintro⟨x61,x62,x63,x64,v18⟩ hi;subst o6;replace H:=Hr6;clear Hr6;try dsimp only at H ⊢
 refine rc 5 fun _=>?_
 revert H;refine B2z fun z8 h19 H=>?_
 refine Z3 ?_
 refine aC [1,0,2,3,4,5] (by decide) ?_
 exact Tm ((k4,z8,x62,x63,x64,x61,v18)) ⟨H,ls⟩
 refine Z12 ?_
 refine Z1 ?_
 exact Tm ((x57,x58,x59,x60,v17)) (ij H)
 rintro⟨x47,x48,x49,x50,v15⟩ hi;subst o5;replace H:=Hr5;clear Hr5;try dsimp only at H ⊢
 refine rc 5 fun _=>?_
 refine Z3 ?_
 refine bD ?_
 refine cP (φ:=fSl aS x22) (v:=v5) [] cD (fun _ h=>nomatch h) ?_
 refine aQ ?_
 refine aP ?_
 refine eX (φs':=[fSl aS x22,fEq v10,fEq v15]) (i:=0) rfl rfl ?_
 refine iY 127 (ψ:=dW [fEq v5,fEq v10,fEq v15]) rfl (jV (i:=0) (φs:=[fEq v5,fEq v10,fEq v15]) (φs':=[fSl aS x22,fEq v10,fEq v15]) rfl rfl) ?_
 refine cL ?_
 refine bD ?_
 refine cP (φ:=fSl aV x36) (v:=v10) [] cD (fun _ h=>nomatch h) ?_
 refine eX (φs':=[fSl aS x22,fSl aV x36,fEq v15]) (i:=1) rfl rfl ?_
 refine iY 127 (ψ:=dW [fSl aS x22,fEq v10,fEq v15]) rfl (jV (i:=1) (φs:=[fSl aS x22,fEq v10,fEq v15]) (φs':=[fSl aS x22,fSl aV x36,fEq v15]) rfl rfl) ?_
 refine cL ?_
 refine bD ?_
 refine cP (φ:=fSl aY x50) (v:=v15) [] cD (fun _ h=>nomatch h) ?_
 refine eX (φs':=[fSl aS x22,fSl aV x36,fSl aY x50]) (i:=2) rfl rfl ?_
 refine iY 127 (ψ:=dW [fSl aS x22,fSl aV x36,fEq v15]) rfl (jV (i:=2) (φs:=[fSl aS x22,fSl aV x36,fEq v15]) (φs':=[fSl aS x22,fSl aV x36,fSl aY x50]) rfl rfl) ?_
 refine cL ?_
 refine Tn (cE (t:=aE) (xs:=[(⟨x22,x36,x50⟩:AO)]) rfl (et rfl) (aX.cons rfl hh bW aX.nil) rfl rfl rfl) fun b7=>?_
 generalize (Value.slice (some ⟨b7,0,none⟩) _ _)=v26
 refine rc 0 fun _=>?_
 revert H;refine bs fun z9 h20 H=>?_
 refine bD ?_
 refine aP ?_
 refine gJ a1I rfl rfl rfl (has rfl) (has rfl) (et rfl) rfl h20 (fun v27=>?_)
 refine rc 0 fun _=>?_
 refine Z4 ?_
 refine aC [2,0] (by decide) ?_
 exact Tm ((z9,x47,x48,x49,v27)) (ij H)
 rintro⟨x15,x16,x17,x18,v4⟩ hi;subst o2;replace H:=Hr2;clear Hr2;try dsimp only at H ⊢
 refine rc 1 fun _=>?_
 revert H;refine B2z fun z10 h21 H=>?_
 refine Z3 ?_
 exact Tm ((k1,x15,z10,x16,x17,x18,v4)) ⟨H,ls⟩
 refine Z12 ?_
 refine Z1 ?_
 exact Tm ((x10,x12,x13,x14,v3)) (ij H)
 rintro⟨x1,x2,x3,x4,v1⟩ hi;subst o1;replace H:=Hr1;clear Hr1;try dsimp only at H ⊢
 refine rc 1 fun _=>?_
 refine Z5 ?_
 refine aP ?_
 refine cP (φ:=fSl aE x1) (v:=v1) [5,130,4] cD fz ?_
 refine cL ?_
 refine eG ?_
 cases H
 exact To
def mA (AA:Nat) (y5:bH × Int):Nat->Int->(List Int)->Int->Bool->(List AL)->Option (List Int × Int × Bool × List AL)
| 0,_,_,_,_,_=>none
| k+1,x10,x11,x12,x13,x14=>
 if x10<y5.2 then
  bif x13 then
   some (x11,x12,x13,x14)
  else
   (dH AA (⟨x11,x12,x13⟩:bH)).bind fun y6=>
   (kU y6.2).bind fun y7=>
   (if y7<0 then
    some true
   else
    some y6.1.bad).bind fun x15=>
   (if 0<y7 then
    (dH AA (⟨y6.1.b,y6.1.at_,x15⟩:bH)).bind fun y8=>
    some (y8.2,y8.1.b,y8.1.at_,y8.1.bad)
   else
    some (0,y6.1.b,y6.1.at_,x15)).bind fun (x16,x17,x18,x19)=>
   (if 1<y7 then
    (dH AA (⟨x17,x18,x19⟩:bH)).bind fun y9=>
    some (y9.2,y9.1.b,y9.1.at_,y9.1.bad)
   else
    some (0,x17,x18,x19)).bind fun (x20,x21,x22,x23)=>
   (if y6.2=1 then
    (jB .i64 x16 2).bind fun z1=>
    if z1=1 then
     (chk (x16+1)).bind fun z2=>
     (chk (0 - z2)).bind fun z3=>
     (hJ .i64 z3 2).bind fun z4=>
     some z4
    else
     (hJ .i64 x16 2).bind fun z5=>
     some z5
   else
    some x16).bind fun x24=>
   (cY (x14++[(⟨y6.2,x24,x20⟩:AL)])).bind fun z6=>
   (chk (x10+1)).bind fun z7=>
   mA AA y5 k z7 x21 x22 x23 z6
 else
  some (x11,x12,x13,x14)
def nI (AA:Nat) (a0:List Int):Option (AB × Int):=
 if 400000<(a0.length:Int)then
  some ((⟨0,[],[],0⟩:AB),3)
 else
  (dH AA (⟨a0,0,false⟩:bH)).bind fun y1=>
  (dH AA (⟨y1.1.b,y1.1.at_,y1.1.bad⟩:bH)).bind fun y2=>
  (dH AA (⟨y2.1.b,y2.1.at_,y2.1.bad⟩:bH)).bind fun y3=>
  (yE AA (⟨y3.1.b,y3.1.at_,y3.1.bad⟩:bH) y3.2).bind fun y4=>
  (dH AA (⟨y4.1.b,y4.1.at_,y4.1.bad⟩:bH)).bind fun y5=>
  (mA AA y5 AA 0 y5.1.b y5.1.at_ y5.1.bad []).bind fun (x1,x2,x3,x4)=>
  bif x3 then
   some ((⟨0,[],[],0⟩:AB),4)
  else
   if x2<(a0.length:Int)then
    some ((⟨0,[],[],0⟩:AB),4)
   else
    (oV AA (⟨y1.2,y4.2,x4,y2.2⟩:AB)).bind fun y10=>
    (oM AA y10 a0).bind fun y11=>
    bif y11 then
     (lZ AA (⟨y1.2,y4.2,x4,y2.2⟩:AB)).bind fun y12=>
     if y12≠0 then
      some ((⟨0,[],[],0⟩:AB),2)
     else
      some ((⟨y1.2,y4.2,x4,y2.2⟩:AB),0)
    else
     some ((⟨0,[],[],0⟩:AB),4)
theorem aHP (AA:Nat)  (a0:List Int) (r:AB × Int) (H:nI AA a0=some r):FnS Tryz.prog 11 [fSl (aJ .u8) a0] [] (dI [fSt dX r.1,fI r.2]) (fun _=>[]):=by
 unfold nI at H
 refine bY Tryz.func11 rfl Tryz.ntmps11 rfl (fun β=>?_)
 refine Z1 ?_
 refine Tn (bU rfl tU rfl) fun b1=>?_
 refine Z2 ?_
 refine aK ?_
 refine I5 H (fun c1 H=>?_) fun c1 H=>?_
 refine Z2 ?_
 refine Yy (dJ (ψs:=[fI 0,fEq (.slice none 0 0),fEq (.slice none 0 0),fI 0]) rfl lX rfl bE.nil rfl) ?_
 refine bT (φs':=[fI 0,fEq (.slice none 0 0),fEq (.slice none 0 0),fI 0]) a1I rfl rfl (has rfl) (has rfl) (aH (aD a1I) (aH (aD a1I) (aH (aD a1I) (aH (aD a1I) bL)))) (sz rfl) rfl rfl rfl ?_
 refine Z3 ?_
 cases H
 exact lJ rfl (ag rfl) rfl (cM rfl) (cM rfl) (gV (aG.cons Ent.rfl (aG.cons cF (aG.cons cF (aG.cons Ent.rfl aG.nil))))) rfl
 refine Z5 ?_
 refine Yy (dJ (ψs:=[fSl (aJ .u8) a0,fI 0,aL false]) rfl aHR rfl (bE.cons (has rfl) (bO (cA)) bE.nil) rfl) ?_
 refine Tn (cG rfl hh bW) fun b2=>?_
 refine Z3 ?_
 refine Tn (bU rfl tU rfl) fun b3=>?_
 refine Z3 ?_
 refine aP ?_
 refine eG ?_
 refine bz H fun y1 h1 H=>?_
 refine Tc (fQ _ _ _ _ h1) ?_
 refine eT ?_
 refine Z1 ?_
 refine aP ?_
 refine bJ (φs':=[fI y1.2,fEq (.slice none 0 0),fEq (.slice none 0 0),fI 0]) a1I rfl rfl (has rfl) (has rfl) (aD a1I) (sz rfl) rfl rfl ?_
 refine Z3 ?_
 refine aP ?_
 refine eG ?_
 refine bz H fun y2 h2 H=>?_
 refine Tc (fQ _ _ _ _ h2) ?_
 refine eT ?_
 refine Z1 ?_
 refine aP ?_
 refine bJ (φs':=[fI y1.2,fEq (.slice none 0 0),fEq (.slice none 0 0),fI y2.2]) a1I rfl rfl (has rfl) (has rfl) (aD a1I) (sz rfl) rfl rfl ?_
 refine Z4 ?_
 refine aP ?_
 refine eG ?_
 refine bz H fun y3 h3 H=>?_
 refine Tc (fQ _ _ _ _ h3) ?_
 refine eT ?_
 refine eG ?_
 refine bz H fun y4 h4 H=>?_
 refine Tc (aIt _ _ _ _ _ h4) ?_
 refine eT ?_
 refine Z1 ?_
 refine aP ?_
 refine bJ (φs':=[fI y1.2,fSl aE y4.2,fEq (.slice none 0 0),fI y2.2]) a1I rfl rfl (has rfl) (has rfl) (cA) (sz rfl) rfl rfl ?_
 refine Z3 ?_
 refine aP ?_
 refine eG ?_
 refine bz H fun y5 h5 H=>?_
 refine Tc (fQ _ _ _ _ h5) ?_
 refine eT ?_
 revert H;refine B2z fun o1 H Hr1=>?_
 refine aO (ι:=List Int × Int × Bool × List AL × Value) (fun i=>o1=(i.1,i.2.1,i.2.2.1,i.2.2.2.1)) (fun i=>[(0,fSl (aJ .u8) a0),(2,fEq (ptr b1)),(4,fEq (ptr b2)),(5,fEq (ptr b3))]) (fun i=>[aA b2 100 [fSl (aJ .u8) i.1,fI i.2.1,aL i.2.2.1],aA b3 25 [fI y1.2,fSl aE y4.2,fEq i.2.2.2.2,fI y2.2],aA b1 25 [fI 0,fEq (.slice none 0 0),fEq (.slice none 0 0),fI 0],aB i.2.2.2.2 54 aF i.2.2.2.1]) ?_ ?_
 refine Z4 ?_
 refine dQ aF 54 ?_
 refine aC [1,2,3,0] (by decide) ?_
 refine Th (ι:=Int × List Int × Int × Bool × List AL × Value) (fun i=>mA AA y5 i.1 i.2.1 i.2.2.1 i.2.2.2.1 i.2.2.2.2.1 i.2.2.2.2.2.1=_) (fun i=>[(0,fSl (aJ .u8) a0),(2,fEq (ptr b1)),(4,fEq (ptr b2)),(5,fEq (ptr b3)),(6,fI y5.2),(7,fI i.2.1)]) (fun i=>[aA b2 100 [fSl (aJ .u8) i.2.2.1,fI i.2.2.2.1,aL i.2.2.2.2.1],aA b3 25 [fI y1.2,fSl aE y4.2,fEq i.2.2.2.2.2.2,fI y2.2],aA b1 25 [fI 0,fEq (.slice none 0 0),fEq (.slice none 0 0),fI 0],aB i.2.2.2.2.2.2 54 aF i.2.2.2.2.2.1]) (AA,0,y5.1.b,y5.1.at_,y5.1.bad,[],(.slice none 0 0)) H (fun _ h=>nomatch h) ?_
 clear H;rintro k1 ⟨x10,x11,x12,x13,x14,v3⟩ H;dsimp only at H ⊢;rw [mA]at H
 refine rc 3 fun _=>?_
 refine aK ?_
 revert H;refine I5z (fun c2 H=>?_) fun c2 H=>?_
 refine Z7 ?_
 revert H;refine cs (fun c3 H=>?_) fun c3 H=>?_
 refine Z6 ?_
 exact Tm ((x11,x12,x13,x14,v3)) (ij H)
 refine Z3 ?_
 refine aK ?_
 refine Z3 ?_
 refine eG ?_
 revert H;refine bs fun y6 h6 H=>?_
 refine Tc (fQ _ _ _ _ h6) ?_
 refine eT ?_
 refine Yy (dJ (ψs:=[fI y6.2,fI 0,fI 0]) rfl aDo rfl (bE.cons (has rfl) (bO (aD a1I)) bE.nil) rfl) ?_
 refine Tn (bU rfl kV rfl) fun b4=>?_
 refine bT (φs':=[fI y6.2,fI 0,fI 0]) a1I rfl rfl (has rfl) (has rfl) (aH (aD a1I) (aH (aD a1I) (aH (aD a1I) bL))) (sz rfl) rfl rfl rfl ?_
 revert H;refine B4z fun y7 h7 H=>?_
 refine Tc (aAu _ _ h7) ?_
 revert H;refine B2z fun o2 H Hr2=>?_
 refine aO (fun i=>o2=i) (fun i=>[(0,fSl (aJ .u8) a0),(2,fEq (ptr b1)),(4,fEq (ptr b2)),(5,fEq (ptr b3)),(6,fI y5.2),(7,fI x10),(8,fEq (ptr b4)),(9,fI y7)]) (fun i=>[aA b2 100 [fSl (aJ .u8) y6.1.b,fI y6.1.at_,aL i],aA b4 54 [fI y6.2,fI 0,fI 0],aA b3 25 [fI y1.2,fSl aE y4.2,fEq v3,fI y2.2],aA b1 25 [fI 0,fEq (.slice none 0 0),fEq (.slice none 0 0),fI 0],aB v3 54 aF x14]) ?_ ?_
 revert H;refine I4z (fun c4 H=>?_) fun c4 H=>?_
 refine Z5 ?_
 refine aP ?_
 refine bJ (φs':=[fSl (aJ .u8) y6.1.b,fI y6.1.at_,aL true]) a1I rfl rfl (has rfl) (has rfl) (aD a1I) (sz rfl) rfl rfl ?_
 refine Z1 ?_
 exact Tm (true) (ij H)
 refine Z3 ?_
 refine aC [1,0,2,3,4] (by decide) ?_
 exact Tm (y6.1.bad) (ij H)
 rintro x15 hi;subst o2;replace H:=Hr2;clear Hr2;try dsimp only at H ⊢
 revert H;refine bs fun o3 H Hr3=>?_
 refine aO (fun i=>o3=i) (fun i=>[(0,fSl (aJ .u8) a0),(2,fEq (ptr b1)),(4,fEq (ptr b2)),(5,fEq (ptr b3)),(6,fI y5.2),(7,fI x10),(8,fEq (ptr b4)),(9,fI y7)]) (fun i=>[aA b4 54 [fI y6.2,fI i.1,fI 0],aA b2 100 [fSl (aJ .u8) i.2.1,fI i.2.2.1,aL i.2.2.2],aA b3 25 [fI y1.2,fSl aE y4.2,fEq v3,fI y2.2],aA b1 25 [fI 0,fEq (.slice none 0 0),fEq (.slice none 0 0),fI 0],aB v3 54 aF x14]) ?_ ?_
 revert H;refine I4z (fun c5 H=>?_) fun c5 H=>?_
 refine Z3 ?_
 refine eG ?_
 revert H;refine bs fun y8 h8 H=>?_
 refine Tc (fQ _ _ _ _ h8) ?_
 refine eT ?_
 refine Z1 ?_
 refine aP ?_
 refine bJ (φs':=[fI y6.2,fI y8.2,fI 0]) a1I rfl rfl (has rfl) (has rfl) (aD a1I) (sz rfl) rfl rfl ?_
 refine Z1 ?_
 exact Tm ((y8.2,y8.1.b,y8.1.at_,y8.1.bad)) (ij H)
 refine Z3 ?_
 refine aC [1,0,2,3,4] (by decide) ?_
 exact Tm ((0,y6.1.b,y6.1.at_,x15)) (ij H)
 rintro⟨x16,x17,x18,x19⟩ hi;subst o3;replace H:=Hr3;clear Hr3;try dsimp only at H ⊢
 revert H;refine bs fun o4 H Hr4=>?_
 refine aO (fun i=>o4=i) (fun i=>[(0,fSl (aJ .u8) a0),(2,fEq (ptr b1)),(4,fEq (ptr b2)),(5,fEq (ptr b3)),(6,fI y5.2),(7,fI x10),(8,fEq (ptr b4))]) (fun i=>[aA b4 54 [fI y6.2,fI x16,fI i.1],aA b2 100 [fSl (aJ .u8) i.2.1,fI i.2.2.1,aL i.2.2.2],aA b3 25 [fI y1.2,fSl aE y4.2,fEq v3,fI y2.2],aA b1 25 [fI 0,fEq (.slice none 0 0),fEq (.slice none 0 0),fI 0],aB v3 54 aF x14]) ?_ ?_
 revert H;refine I4z (fun c6 H=>?_) fun c6 H=>?_
 refine Z3 ?_
 refine aP ?_
 refine eG ?_
 revert H;refine bs fun y9 h9 H=>?_
 refine Tc (fQ _ _ _ _ h9) ?_
 refine eT ?_
 refine Z1 ?_
 refine aP ?_
 refine bJ (φs':=[fI y6.2,fI x16,fI y9.2]) a1I rfl rfl (has rfl) (has rfl) (aD a1I) (sz rfl) rfl rfl ?_
 refine Z1 ?_
 exact Tm ((y9.2,y9.1.b,y9.1.at_,y9.1.bad)) (ij H)
 refine Z3 ?_
 exact Tm ((0,x17,x18,x19)) (ij H)
 rintro⟨x20,x21,x22,x23⟩ hi;subst o4;replace H:=Hr4;clear Hr4;try dsimp only at H ⊢
 revert H;refine bs fun o5 H Hr5=>?_
 refine aO (fun i=>o5=i) (fun i=>[(0,fSl (aJ .u8) a0),(2,fEq (ptr b1)),(4,fEq (ptr b2)),(5,fEq (ptr b3)),(6,fI y5.2),(7,fI x10),(8,fEq (ptr b4))]) (fun i=>[aA b4 54 [fI y6.2,fI i,fI x20],aA b2 100 [fSl (aJ .u8) x21,fI x22,aL x23],aA b3 25 [fI y1.2,fSl aE y4.2,fEq v3,fI y2.2],aA b1 25 [fI 0,fEq (.slice none 0 0),fEq (.slice none 0 0),fI 0],aB v3 54 aF x14]) ?_ ?_
 revert H;refine I5z (fun c7 H=>?_) fun c7 H=>?_
 revert H;refine B2z fun z1 h10 H=>?_
 refine Yg c7 (uF rfl hh hh h10) ?_
 revert H;refine I3z (fun c8 H=>?_) fun c8 H=>?_
 revert H;refine B4z fun z2 h11 H=>?_
 revert H;refine B1z fun z3 h12 H=>?_
 refine Yy (o_neg rfl hh h12) ?_
 revert H;refine bs fun z4 h13 H=>?_
 refine Yy (rT rfl hh hh h13) ?_
 refine Z1 ?_
 refine bJ (φs':=[fI y6.2,fI z4,fI x20]) a1I rfl rfl (has rfl) (has rfl) (aD a1I) (sz rfl) rfl rfl ?_
 refine Z1 ?_
 exact Tm (z4) (ij H)
 revert H;refine fP fun z5 h14 H=>?_
 refine Yy (rT rfl hh hh h14) ?_
 refine Z1 ?_
 refine bJ (φs':=[fI y6.2,fI z5,fI x20]) a1I rfl rfl (has rfl) (has rfl) (aD a1I) (sz rfl) rfl rfl ?_
 refine Z1 ?_
 exact Tm (z5) (ij H)
 refine Z12 ?_
 refine Z3 ?_
 exact Tm (x16) (ij H)
 rintro x24 hi;subst o5;replace H:=Hr5;clear Hr5;try dsimp only at H ⊢
 refine Z4 ?_
 refine Tn (cE (t:=aF) (xs:=[(⟨y6.2,x24,x20⟩:AL)]) rfl (et rfl) (aX.cons rfl hh bW aX.nil) rfl rfl rfl) fun b5=>?_
 generalize (Value.slice (some ⟨b5,0,none⟩) _ _)=v4
 refine rc 0 fun _=>?_
 revert H;refine bs fun z6 h15 H=>?_
 refine gE ?_
 refine aP ?_
 refine gJ a1I rfl rfl rfl (has rfl) (has rfl) (et rfl) rfl h15 (fun v5=>?_)
 refine rc 0 fun hc_v5=>?_
 refine Z1 ?_
 refine bD ?_
 refine bJ (φs':=[fI y1.2,fSl aE y4.2,fEq v5,fI y2.2]) a1I rfl rfl (has rfl) (has rfl) (aD hc_v5) (sz rfl) rfl rfl ?_
 revert H;refine B5z fun z7 h16 H=>?_
 refine Z3 ?_
 refine aC [3,0,4,1] (by decide) ?_
 exact Tm ((k1,z7,x21,x22,x23,z6,v5)) ⟨H,ls⟩
 refine Z12 ?_
 refine Z1 ?_
 exact Tm ((x11,x12,x13,x14,v3)) (ij H)
 rintro⟨x1,x2,x3,x4,v1⟩ hi;subst o1;replace H:=Hr1;clear Hr1;try dsimp only at H ⊢
 refine rc 3 fun _=>?_
 refine aK ?_
 refine Z6 ?_
 refine cz H (fun c9 H=>?_) fun c9 H=>?_
 refine Z12 ?_
 refine Z6 ?_
 refine Yy (dJ (ψs:=[fI 0,fEq (.slice none 0 0),fEq (.slice none 0 0),fI 0]) rfl lX rfl bE.nil rfl) ?_
 refine aQ ?_
 refine bT (φs':=[fI 0,fEq (.slice none 0 0),fEq (.slice none 0 0),fI 0]) a1I rfl rfl (has rfl) (has rfl) (aH (aD a1I) (aH (aD a1I) (aH (aD a1I) (aH (aD a1I) bL)))) (sz rfl) rfl rfl rfl ?_
 refine Z3 ?_
 cases H
 refine aC [0] (by decide) ?_
 exact lJ rfl (ag rfl) rfl (cM rfl) (cM rfl) (gV (aG.cons Ent.rfl (aG.cons cF (aG.cons cF (aG.cons Ent.rfl aG.nil))))) rfl
 refine I9 H (fun c10 H=>?_) fun c10 H=>?_
 refine Z9 ?_
 refine Yy (dJ (ψs:=[fI 0,fEq (.slice none 0 0),fEq (.slice none 0 0),fI 0]) rfl lX rfl bE.nil rfl) ?_
 refine aQ ?_
 refine bT (φs':=[fI 0,fEq (.slice none 0 0),fEq (.slice none 0 0),fI 0]) a1I rfl rfl (has rfl) (has rfl) (aH (aD a1I) (aH (aD a1I) (aH (aD a1I) (aH (aD a1I) bL)))) (sz rfl) rfl rfl rfl ?_
 refine Z3 ?_
 cases H
 refine aC [0] (by decide) ?_
 exact lJ rfl (ag rfl) rfl (cM rfl) (cM rfl) (gV (aG.cons Ent.rfl (aG.cons cF (aG.cons cF (aG.cons Ent.rfl aG.nil))))) rfl
 refine Z1 ?_
 refine bD ?_
 refine cP (φ:=fSl aF x4) (v:=v1) [] cD (fun _ h=>nomatch h) ?_
 refine aQ ?_
 refine aP ?_
 refine eX (φs':=[fI y1.2,fSl aE y4.2,fSl aF x4,fI y2.2]) (i:=2) rfl rfl ?_
 refine iY 105 (ψ:=dW [fI y1.2,fSl aE y4.2,fEq v1,fI y2.2]) rfl (jV (i:=2) (φs:=[fI y1.2,fSl aE y4.2,fEq v1,fI y2.2]) (φs':=[fI y1.2,fSl aE y4.2,fSl aF x4,fI y2.2]) rfl rfl) ?_
 refine cL ?_
 refine bz H fun y10 h17 H=>?_
 refine Tc (aC7 _ _ _ h17) ?_
 refine B1 H fun y11 h18 H=>?_
 refine Tc (aDr _ _ _ _ h18) ?_
 refine Z3 ?_
 refine cz H (fun c11 H=>?_) fun c11 H=>?_
 refine Z3 ?_
 refine aK ?_
 refine B2 H fun y12 h19 H=>?_
 refine Tc (aDE _ _ _ h19) ?_
 refine I2 H (fun c12 H=>?_) fun c12 H=>?_
 refine Z2 ?_
 refine Yy (dJ (ψs:=[fI 0,fEq (.slice none 0 0),fEq (.slice none 0 0),fI 0]) rfl lX rfl bE.nil rfl) ?_
 refine aQ ?_
 refine bT (φs':=[fI 0,fEq (.slice none 0 0),fEq (.slice none 0 0),fI 0]) a1I rfl rfl (has rfl) (has rfl) (aH (aD a1I) (aH (aD a1I) (aH (aD a1I) (aH (aD a1I) bL)))) (sz rfl) rfl rfl rfl ?_
 refine Z3 ?_
 cases H
 refine aC [0] (by decide) ?_
 exact lJ rfl (ag rfl) rfl (cM rfl) (cM rfl) (gV (aG.cons Ent.rfl (aG.cons cF (aG.cons cF (aG.cons Ent.rfl aG.nil))))) rfl
 refine Z5 ?_
 refine aQ ?_
 refine bT (φs':=[fI y1.2,fSl aE y4.2,fSl aF x4,fI y2.2]) a1I rfl rfl (has rfl) (has rfl) (aH (aD a1I) (aH (cA) (aH (cA) (aH (aD a1I) bL)))) (sz rfl) rfl rfl rfl ?_
 refine Z3 ?_
 cases H
 refine aC [0] (by decide) ?_
 exact lJ rfl (ag rfl) rfl (cM rfl) (cM rfl) Ent.rfl rfl
 refine Z2 ?_
 refine Yy (dJ (ψs:=[fI 0,fEq (.slice none 0 0),fEq (.slice none 0 0),fI 0]) rfl lX rfl bE.nil rfl) ?_
 refine aQ ?_
 refine bT (φs':=[fI 0,fEq (.slice none 0 0),fEq (.slice none 0 0),fI 0]) a1I rfl rfl (has rfl) (has rfl) (aH (aD a1I) (aH (aD a1I) (aH (aD a1I) (aH (aD a1I) bL)))) (sz rfl) rfl rfl rfl ?_
 refine Z3 ?_
 cases H
 refine aC [0] (by decide) ?_
 exact lJ rfl (ag rfl) rfl (cM rfl) (cM rfl) (gV (aG.cons Ent.rfl (aG.cons cF (aG.cons cF (aG.cons Ent.rfl aG.nil))))) rfl
open Go.SX Go.SW Go.Dt
def tL (a0:AO) (a1:AO):Nat->Int->Option ((Unit) ⊕ (Bool))
| 0,_=>none
| k+1,x2=>
 if x2<(a0.AQ.length:Int)then
  (idx a0.AQ x2).bind fun y1=>
  (idx a1.AQ x2).bind fun y2=>
  bif decide (y1.At=y2.At) && decide (y1.Ae=y2.Ae)then
   (chk (x2+1)).bind fun z1=>
   tL a0 a1 k z1
  else
   (some false).bind fun r=>some (Sum.inr r)
 else
  some (Sum.inl ())
def tS (a0:AO) (a1:AO):Nat->Int->Option ((Unit) ⊕ (Bool))
| 0,_=>none
| k+1,x4=>
 if x4<(a0.AN.length:Int)then
  (idx a0.AN x4).bind fun y3=>
  (idx a1.AN x4).bind fun y4=>
  bif decide (y3.In=y4.In) && decide (y3.AV=y4.AV)then
   (chk (x4+1)).bind fun z2=>
   tS a0 a1 k z2
  else
   (some false).bind fun r=>some (Sum.inr r)
 else
  some (Sum.inl ())
def sA (y5:AZ) (y6:AZ):Nat->Int->Option ((Unit) ⊕ ((Unit) ⊕ (Bool)))
| 0,_=>none
| k+1,x8=>
 if x8<(y5.AX.length:Int)then
  (idx y5.AX x8).bind fun y7=>
  (idx y6.AX x8).bind fun y8=>
  if y7≠y8 then
   ((some false).bind fun r=>some (Sum.inr r)).bind fun r=>some (Sum.inr r)
  else
   (chk (x8+1)).bind fun z3=>
   sA y5 y6 k z3
 else
  some (Sum.inl ())
def rY (AA:Nat) (a0:AO) (a1:AO):Nat->Int->Option ((Unit) ⊕ (Bool))
| 0,_=>none
| k+1,x6=>
 if x6<(a0.AP.length:Int)then
  ((idx a0.AP x6).bind fun y5=>
  (idx a1.AP x6).bind fun y6=>
  if y5.At≠y6.At then
   ((some false).bind fun r=>some (Sum.inr r)).bind fun r=>some (Sum.inr r)
  else
   if y5.AV≠y6.AV then
    ((some false).bind fun r=>some (Sum.inr r)).bind fun r=>some (Sum.inr r)
   else
    if (y5.AX.length:Int)≠(y6.AX.length:Int)then
     ((some false).bind fun r=>some (Sum.inr r)).bind fun r=>some (Sum.inr r)
    else
     sA y5 y6 AA 0).bind fun o=>match o with
  | Sum.inr r=>some r
  | Sum.inl _=>
  (chk (x6+1)).bind fun z4=>
  rY AA a0 a1 k z4
 else
  some (Sum.inl ())
def uZ (AA:Nat) (a0:AO) (a1:AO):Option (Bool):=
 if (a0.AQ.length:Int)≠(a1.AQ.length:Int)then
  some false
 else
  if (a0.AN.length:Int)≠(a1.AN.length:Int)then
   some false
  else
   if (a0.AP.length:Int)≠(a1.AP.length:Int)then
    some false
   else
    (tL a0 a1 AA 0).bind fun o=>match o with
    | Sum.inr r=>some r
    | Sum.inl _=>
    (tS a0 a1 AA 0).bind fun o=>match o with
    | Sum.inr r=>some r
    | Sum.inl _=>
    (rY AA a0 a1 AA 0).bind fun o=>match o with
    | Sum.inr r=>some r
    | Sum.inl _=>
    some true
theorem aH6 (AA:Nat)  (a0:AO) (a1:AO) (r:Bool) (H:uZ AA a0 a1=some r):FnS Tryz.prog 76 [fSt aE a0,fSt aE a1] [] (aL r) (fun _=>[]):=by
 unfold uZ at H
 refine bY Tryz.func76 rfl Tryz.ntmps76 rfl (fun β=>?_)
 refine Z1 ?_
 refine Tn (cG rfl hh bW) fun b1=>?_
 refine Tn (cG rfl hh bW) fun b2=>?_
 refine Z2 ?_
 refine aK ?_
 refine I9 H (fun c1 H=>?_) fun c1 H=>?_
 refine Z12 ?_
 refine Z11 ?_
 cases H
 refine aC [] (by decide) ?_
 exact To
 refine I9 H (fun c2 H=>?_) fun c2 H=>?_
 refine Z12 ?_
 refine Z2 ?_
 cases H
 refine aC [] (by decide) ?_
 exact To
 refine I9 H (fun c3 H=>?_) fun c3 H=>?_
 refine Z5 ?_
 cases H
 refine aC [] (by decide) ?_
 exact To
 revert H;refine B3z fun o1 H Hr1=>?_
 refine aO (ι:=Unit) (fun i=>o1=Sum.inl ()) (fun i=>[(2,fEq (ptr b1)),(3,fEq (ptr b2))]) (fun i=>[aA b2 78 [fSl aS a1.AQ,fSl aV a1.AN,fSl aY a1.AP],aA b1 78 [fSl aS a0.AQ,fSl aV a0.AN,fSl aY a0.AP]]) ?_ ?_
 refine Z4 ?_
 refine Th (ι:=Int) (fun i=>tL a0 a1 i.1 i.2=_) (fun i=>[(2,fEq (ptr b1)),(3,fEq (ptr b2)),(5,fI i.2)]) (fun i=>[aA b2 78 [fSl aS a1.AQ,fSl aV a1.AN,fSl aY a1.AP],aA b1 78 [fSl aS a0.AQ,fSl aV a0.AN,fSl aY a0.AP]]) (AA,0) H (fun _ h=>nomatch h) ?_
 clear H;rintro k1 x2 H;dsimp only at H ⊢;rw [tL]at H
 refine aK ?_
 revert H;refine I7z (fun c4 H=>?_) fun c4 H=>?_
 refine Z3 ?_
 refine aK ?_
 refine Z1 ?_
 refine aK ?_
 revert H;refine bs fun y1 h1 H=>?_
 revert H;refine bs fun y2 h2 H=>?_
 apply bQ (ods:=[_,_,_,_,_,_,_,_,_,_,_]) 11 0 2 bM rfl rfl rfl
 refine ND ?_
 refine M8 ?_
 intros
 refine M2 ?_
 intros
 refine My (aBu rfl hh hh rfl rfl aGt) fun _=>?_
 refine Z2 ?_
 revert H;refine cs (fun c5 H=>?_) fun c5 H=>?_
 revert H;refine B6z fun z1 h3 H=>?_
 refine Z3 ?_
 exact Tm ((k1,z1)) ⟨H,ls⟩
 revert H;refine fP fun r1 H e1=>?_
 cases e1;cases Hr1
 cases H
 refine aC [] (by decide) ?_
 exact To
 exact fk
 kernel_rfl
 refine Z6 ?_
 exact Tm (()) (ij H)
 rintro i hi;subst o1;replace H:=Hr1;clear Hr1;try dsimp only at H ⊢
 revert H;refine bs fun o2 H Hr2=>?_
 refine aO (ι:=Unit) (fun i=>o2=Sum.inl ()) (fun i=>[(2,fEq (ptr b1)),(3,fEq (ptr b2))]) (fun i=>[aA b2 78 [fSl aS a1.AQ,fSl aV a1.AN,fSl aY a1.AP],aA b1 78 [fSl aS a0.AQ,fSl aV a0.AN,fSl aY a0.AP]]) ?_ ?_
 refine Z4 ?_
 refine Th (ι:=Int) (fun i=>tS a0 a1 i.1 i.2=_) (fun i=>[(2,fEq (ptr b1)),(3,fEq (ptr b2)),(6,fI i.2)]) (fun i=>[aA b2 78 [fSl aS a1.AQ,fSl aV a1.AN,fSl aY a1.AP],aA b1 78 [fSl aS a0.AQ,fSl aV a0.AN,fSl aY a0.AP]]) (AA,0) H (fun _ h=>nomatch h) ?_
 clear H;rintro k2 x4 H;dsimp only at H ⊢;rw [tS]at H
 refine aK ?_
 revert H;refine I7z (fun c6 H=>?_) fun c6 H=>?_
 refine Z3 ?_
 refine aK ?_
 refine Z1 ?_
 refine aK ?_
 revert H;refine bs fun y3 h4 H=>?_
 revert H;refine bs fun y4 h5 H=>?_
 apply bQ (ods:=[_,_,_,_,_,_,_,_,_,_,_]) 11 0 2 bM rfl rfl rfl
 refine ND ?_
 refine M8 ?_
 intros
 refine M2 ?_
 intros
 refine My (aBu rfl hh hh rfl rfl aGb) fun _=>?_
 refine Z2 ?_
 revert H;refine cs (fun c7 H=>?_) fun c7 H=>?_
 revert H;refine B6z fun z2 h6 H=>?_
 refine Z3 ?_
 exact Tm ((k2,z2)) ⟨H,ls⟩
 revert H;refine fP fun r2 H e2=>?_
 cases e2;cases Hr2
 cases H
 refine aC [] (by decide) ?_
 exact To
 exact fk
 kernel_rfl
 refine Z6 ?_
 exact Tm (()) (ij H)
 rintro i hi;subst o2;replace H:=Hr2;clear Hr2;try dsimp only at H ⊢
 revert H;refine bs fun o3 H Hr3=>?_
 refine aO (ι:=Unit) (fun i=>o3=Sum.inl ()) (fun i=>[]) (fun i=>[aA b2 78 [fSl aS a1.AQ,fSl aV a1.AN,fSl aY a1.AP],aA b1 78 [fSl aS a0.AQ,fSl aV a0.AN,fSl aY a0.AP]]) ?_ ?_
 refine Z4 ?_
 refine Th (ι:=Int) (fun i=>rY AA a0 a1 i.1 i.2=_) (fun i=>[(2,fEq (ptr b1)),(3,fEq (ptr b2)),(7,fI i.2)]) (fun i=>[aA b2 78 [fSl aS a1.AQ,fSl aV a1.AN,fSl aY a1.AP],aA b1 78 [fSl aS a0.AQ,fSl aV a0.AN,fSl aY a0.AP]]) (AA,0) H (fun _ h=>nomatch h) ?_
 clear H;rintro k3 x6 H;dsimp only at H ⊢;rw [rY]at H
 refine aK ?_
 revert H;refine I7z (fun c8 H=>?_) fun c8 H=>?_
 revert H;refine B3z fun o4 H Hr4=>?_
 refine aO (ι:=Unit) (fun i=>o4=Sum.inl ()) (fun i=>[(2,fEq (ptr b1)),(3,fEq (ptr b2)),(7,fI x6)]) (fun i=>[aA b2 78 [fSl aS a1.AQ,fSl aV a1.AN,fSl aY a1.AP],aA b1 78 [fSl aS a0.AQ,fSl aV a0.AN,fSl aY a0.AP]]) ?_ ?_
 refine Z1 ?_
 refine aK ?_
 revert H;refine bs fun y5 h7 H=>?_
 revert H;refine bs fun y6 h8 H=>?_
 apply bQ (ods:=[_,_,_,_,_,_,_,_,_,_,_,_,_,_]) 14 2 4 bM rfl rfl rfl
 refine ND ?_
 refine M8 ?_
 intros
 refine M2 ?_
 intros
 refine Mn 2 (fun b3=>ptr b3) (fun b3=>aA b3 84 [fI 0,fEq (.slice none 0 0),fI 0]) rfl (bU rfl mK rfl) (fun b3 u1=>?_)
 refine Mn 3 (fun b4=>ptr b4) (fun b4=>aA b4 84 [fI 0,fEq (.slice none 0 0),fI 0]) rfl (bU rfl mK rfl) (fun b4 u2=>?_)
 refine wS (od:=od1 10 [2] true (fun b3 _=>jK) (fun b3 _=>[aA b3 84 [fI y5.At,fSl tI y5.AX,fI y5.AV]])) (p:=2) (φs':=[fI y5.At,fSl tI y5.AX,fI y5.AV]) rfl (fun _=>rfl) (fun _=>rfl) a1I rfl rfl rfl (has rfl) (has rfl) (aH (aD a1I) (aH (cA) (aH (aD a1I) bL))) (sz rfl) rfl rfl rfl (fun _=>?_)
 refine wS (od:=od1 11 [3] true (fun b4 _=>jK) (fun b4 _=>[aA b4 84 [fI y6.At,fSl tI y6.AX,fI y6.AV]])) (p:=3) (φs':=[fI y6.At,fSl tI y6.AX,fI y6.AV]) rfl (fun _=>rfl) (fun _=>rfl) a1I rfl rfl rfl (has rfl) (has rfl) (aH (aD a1I) (aH (cA) (aH (aD a1I) bL))) (sz rfl) rfl rfl rfl (fun _=>?_)
 refine Z2 ?_
 refine aK ?_
 revert H;refine I7z (fun c9 H=>?_) fun c9 H=>?_
 refine Z12 ?_
 revert H;refine jC fun r3 H e3=>?_
 cases e3;cases Hr4
 revert H;refine B3z fun r4 H e4=>?_
 cases e4;cases Hr3
 cases H
 refine aC [] (by decide) ?_
 exact To
 revert H;refine I7z (fun c10 H=>?_) fun c10 H=>?_
 refine Z12 ?_
 revert H;refine B4z fun r5 H e5=>?_
 cases e5;cases Hr4
 revert H;refine B3z fun r6 H e6=>?_
 cases e6;cases Hr3
 cases H
 refine aC [] (by decide) ?_
 exact To
 revert H;refine I9z (fun c11 H=>?_) fun c11 H=>?_
 revert H;refine B7z fun r7 H e7=>?_
 cases e7;cases Hr4
 revert H;refine B3z fun r8 H e8=>?_
 cases e8;cases Hr3
 cases H
 refine aC [] (by decide) ?_
 exact To
 refine Z7 ?_
 refine Th (ι:=Int) (fun i=>sA y5 y6 i.1 i.2=_) (fun i=>[(2,fEq (ptr b1)),(3,fEq (ptr b2)),(7,fI x6),(8,fEq (ptr b3)),(9,fEq (ptr b4)),(10,fI i.2)]) (fun i=>[aA b2 78 [fSl aS a1.AQ,fSl aV a1.AN,fSl aY a1.AP],aA b1 78 [fSl aS a0.AQ,fSl aV a0.AN,fSl aY a0.AP],aA b3 84 [fI y5.At,fSl tI y5.AX,fI y5.AV],aA b4 84 [fI y6.At,fSl tI y6.AX,fI y6.AV]]) (AA,0) H (fun _ h=>nomatch h) ?_
 clear H;rintro k4 x8 H;dsimp only at H ⊢;rw [sA]at H
 refine aK ?_
 revert H;refine I7z (fun c12 H=>?_) fun c12 H=>?_
 refine Z3 ?_
 refine aK ?_
 refine Z1 ?_
 refine aK ?_
 revert H;refine bs fun y7 h9 H=>?_
 revert H;refine bs fun y8 h10 H=>?_
 apply bQ (ods:=[_,_,_,_,_,_,_,_,_,_,_]) 11 0 4 bM rfl rfl rfl
 refine ND ?_
 refine M8 ?_
 intros
 refine M3 ?_
 intros
 revert H;refine I2z (fun c13 H=>?_) fun c13 H=>?_
 revert H;refine jC fun r9 H e9=>?_
 cases e9;cases Hr4
 revert H;refine B3z fun r10 H e10=>?_
 cases e10;cases Hr3
 cases H
 refine aC [] (by decide) ?_
 exact To
 revert H;refine B6z fun z3 h11 H=>?_
 refine Z3 ?_
 exact Tm ((k4,z3)) ⟨H,ls⟩
 exact fk
 kernel_rfl
 refine Z7 ?_
 refine aC [0,1] (by decide) ?_
 exact Tm (()) (ij H)
 exact fk
 kernel_rfl
 rintro i hi;subst o4;replace H:=Hr4;clear Hr4;try dsimp only at H ⊢
 revert H;refine B2z fun z4 h12 H=>?_
 refine Z3 ?_
 exact Tm ((k3,z4)) ⟨H,ls⟩
 refine Z6 ?_
 exact Tm (()) (ij H)
 rintro i hi;subst o3;replace H:=Hr3;clear Hr3;try dsimp only at H ⊢
 refine Z4 ?_
 cases H
 refine aC [] (by decide) ?_
 exact To
def tF (AA:Nat) (a0:List AO) (a1:List AO):Nat->Int->Option ((Unit) ⊕ (Bool))
| 0,_=>none
| k+1,x2=>
 if x2<(a0.length:Int)then
  (idx a0 x2).bind fun y1=>
  (idx a1 x2).bind fun y2=>
  (uZ AA y1 y2).bind fun y3=>
  bif y3 then
   (chk (x2+1)).bind fun z1=>
   tF AA a0 a1 k z1
  else
   (some false).bind fun r=>some (Sum.inr r)
 else
  some (Sum.inl ())
def aAc (AA:Nat) (a0:List AO) (a1:List AO):Option (Bool):=
 if (a0.length:Int)≠(a1.length:Int)then
  some false
 else
  (tF AA a0 a1 AA 0).bind fun o=>match o with
  | Sum.inr r=>some r
  | Sum.inl _=>
  some true
theorem aH0 (AA:Nat)  (a0:List AO) (a1:List AO) (r:Bool) (H:aAc AA a0 a1=some r):FnS Tryz.prog 41 [fSl aE a0,fSl aE a1] [] (aL r) (fun _=>[]):=by
 unfold aAc at H
 refine bY Tryz.func41 rfl Tryz.ntmps41 rfl (fun β=>?_)
 refine Z3 ?_
 refine aK ?_
 refine I7 H (fun c1 H=>?_) fun c1 H=>?_
 refine Z5 ?_
 cases H
 exact To
 revert H;refine B3z fun o1 H Hr1=>?_
 refine aO (ι:=Unit) (fun i=>o1=Sum.inl ()) (fun i=>[]) (fun i=>[]) ?_ ?_
 refine Z4 ?_
 refine Th (ι:=Int) (fun i=>tF AA a0 a1 i.1 i.2=_) (fun i=>[(0,fSl aE a0),(1,fSl aE a1),(5,fI i.2)]) (fun i=>[]) (AA,0) H (fun _ h=>nomatch h) ?_
 clear H;rintro k1 x2 H;dsimp only at H ⊢;rw [tF]at H
 refine aK ?_
 revert H;refine I6z (fun c2 H=>?_) fun c2 H=>?_
 refine Z3 ?_
 refine aK ?_
 refine Z1 ?_
 refine aK ?_
 revert H;refine bs fun y1 h1 H=>?_
 revert H;refine bs fun y2 h2 H=>?_
 revert H;refine bs fun y3 h3 H=>?_
 apply bQ (ods:=[_,_,_,_,_,_,_,_,_,_]) 10 0 0 bM rfl rfl rfl
 refine ND ?_
 refine M8 ?_
 intros
 refine Nc (aH6 _ _ _ _ h3) fun _=>?_
 refine M1 ?_
 intros
 refine Z2 ?_
 revert H;refine cs (fun c3 H=>?_) fun c3 H=>?_
 revert H;refine B6z fun z1 h4 H=>?_
 refine Z3 ?_
 exact Tm ((k1,z1)) ⟨H,ls⟩
 revert H;refine fP fun r1 H e1=>?_
 cases e1;cases Hr1
 cases H
 exact To
 exact fk
 kernel_rfl
 refine Z6 ?_
 exact Tm (()) (ij H)
 rintro i hi;subst o1;replace H:=Hr1;clear Hr1;try dsimp only at H ⊢
 refine Z4 ?_
 cases H
 exact To
def tT (a0:AB) (a1:AB):Nat->Int->Option ((Unit) ⊕ (Bool))
| 0,_=>none
| k+1,x2=>
 if x2<(a0.Code.length:Int)then
  (idx a0.Code x2).bind fun y2=>
  (idx a1.Code x2).bind fun y3=>
  bif decide (y2.Op=y3.Op) && (decide (y2.A=y3.A) && decide (y2.B=y3.B))then
   (chk (x2+1)).bind fun z1=>
   tT a0 a1 k z1
  else
   (some false).bind fun r=>some (Sum.inr r)
 else
  some (Sum.inl ())
def qO (AA:Nat) (a0:AB) (a1:AB):Option (Bool):=
 if a0.AH≠a1.AH then
  some false
 else
  if a0.AG≠a1.AG then
   some false
  else
   if (a0.Code.length:Int)≠(a1.Code.length:Int)then
    some false
   else
    (aAc AA a0.AD a1.AD).bind fun y1=>
    bif y1 then
     (tT a0 a1 AA 0).bind fun o=>match o with
     | Sum.inr r=>some r
     | Sum.inl _=>
     some true
    else
     some false
theorem aHC (AA:Nat)  (a0:AB) (a1:AB) (r:Bool) (H:qO AA a0 a1=some r):FnS Tryz.prog 13 [fSt dX a0,fSt dX a1] [] (aL r) (fun _=>[]):=by
 unfold qO at H
 refine bY Tryz.func13 rfl Tryz.ntmps13 rfl (fun β=>?_)
 refine Z1 ?_
 refine Tn (cG rfl hh bW) fun b1=>?_
 refine Tn (cG rfl hh bW) fun b2=>?_
 refine Z2 ?_
 refine aK ?_
 refine I7 H (fun c1 H=>?_) fun c1 H=>?_
 refine Z12 ?_
 refine Z12 ?_
 refine Z5 ?_
 cases H
 refine aC [] (by decide) ?_
 exact To
 refine I7 H (fun c2 H=>?_) fun c2 H=>?_
 refine Z12 ?_
 refine Z10 ?_
 cases H
 refine aC [] (by decide) ?_
 exact To
 refine I9 H (fun c3 H=>?_) fun c3 H=>?_
 refine Z12 ?_
 refine Z1 ?_
 cases H
 refine aC [] (by decide) ?_
 exact To
 refine B4 H fun y1 h1 H=>?_
 refine Tc (aH0 _ _ _ _ h1) ?_
 refine Z3 ?_
 refine cz H (fun c4 H=>?_) fun c4 H=>?_
 revert H;refine B3z fun o1 H Hr1=>?_
 refine aO (ι:=Unit) (fun i=>o1=Sum.inl ()) (fun i=>[]) (fun i=>[aA b2 25 [fI a1.AH,fSl aE a1.AD,fSl aF a1.Code,fI a1.AG],aA b1 25 [fI a0.AH,fSl aE a0.AD,fSl aF a0.Code,fI a0.AG]]) ?_ ?_
 refine Z4 ?_
 refine Th (ι:=Int) (fun i=>tT a0 a1 i.1 i.2=_) (fun i=>[(2,fEq (ptr b1)),(3,fEq (ptr b2)),(5,fI i.2)]) (fun i=>[aA b2 25 [fI a1.AH,fSl aE a1.AD,fSl aF a1.Code,fI a1.AG],aA b1 25 [fI a0.AH,fSl aE a0.AD,fSl aF a0.Code,fI a0.AG]]) (AA,0) H (fun _ h=>nomatch h) ?_
 clear H;rintro k1 x2 H;dsimp only at H ⊢;rw [tT]at H
 refine aK ?_
 revert H;refine I7z (fun c5 H=>?_) fun c5 H=>?_
 refine Z3 ?_
 refine aK ?_
 refine Z1 ?_
 refine aK ?_
 revert H;refine bs fun y2 h2 H=>?_
 revert H;refine bs fun y3 h3 H=>?_
 apply bQ (ods:=[_,_,_,_,_,_,_,_,_,_,_]) 11 0 2 bM rfl rfl rfl
 refine ND ?_
 refine M8 ?_
 intros
 refine M2 ?_
 intros
 refine My (o_neqSt3 rfl hh hh rfl rfl aHK) fun _=>?_
 refine Z2 ?_
 revert H;refine cs (fun c6 H=>?_) fun c6 H=>?_
 revert H;refine B6z fun z1 h4 H=>?_
 refine Z3 ?_
 exact Tm ((k1,z1)) ⟨H,ls⟩
 revert H;refine fP fun r1 H e1=>?_
 cases e1;cases Hr1
 cases H
 refine aC [] (by decide) ?_
 exact To
 exact fk
 kernel_rfl
 refine Z6 ?_
 exact Tm (()) (ij H)
 rintro i hi;subst o1;replace H:=Hr1;clear Hr1;try dsimp only at H ⊢
 refine Z4 ?_
 cases H
 refine aC [] (by decide) ?_
 exact To
 refine Z5 ?_
 cases H
 refine aC [] (by decide) ?_
 exact To
end Go.Proofs.YtpbeacokfapklaaGreatDoor

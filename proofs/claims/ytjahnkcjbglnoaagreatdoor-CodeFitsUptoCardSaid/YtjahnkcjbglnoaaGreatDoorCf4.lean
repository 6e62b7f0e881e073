/- Parts of the proof: lemmas, and the steps through the program. -/
import Derived.Test.YtjahnkcjbglnoaaGreatDoorCf3
import Derived.Test.YtjahnkcjbglnoaaGreatDoorProg
import Derived.KernelRfl
set_option linter.unusedVariables false
set_option linter.unusedSimpArgs false
set_option maxRecDepth 100000
set_option maxHeartbeats 2000000
namespace Go.Proofs.YtjahnkcjbglnoaaGreatDoor
open Go.SX Go.SW Go.BX
theorem aJg:okB (run0 Tryz.prog 1000000 9) true=true:=by kernel_rfl
def aAV:Option Bool:=some true
theorem aFg (r:Bool) (H:aAV=some r):FnS Tryz.prog 9 [] [] (aH r) (fun _=>[]):=by
 cases H
 obtain⟨s,h⟩:=run_true aJg
 exact aDY (by kernel_rfl) rfl h
open Go.SX Go.SW Go.Dt
attribute [local irreducible] Code.wpIn wpListIn Exit.then Exit.inBlock
def zI (AA:Nat) (a0:AC):Option (Int):=
 (fV AA (⟨a0.AF,a0.AE,a0.Code,a0.AG⟩:AC)).bind fun y1=>
 bif y1.2 then
  some 0
 else
  some 2
theorem aI4 (AA:Nat)  (a0:AC) (r:Int) (H:zI AA a0=some r):FnS Tryz.prog 12 [fSt lR a0] [] (fI r) (fun _=>[]):=by
 unfold zI at H
 refine bS Tryz.func12 rfl Tryz.ntmps12 rfl (fun β=>?_)
 refine Z1 ?_
 refine Tn (cA rfl hh bT) fun b1=>?_
 refine Z2 ?_
 refine aL ?_
 refine B2 H fun y1 h1 H=>?_
 refine Tc (aIv _ _ _ h1) ?_
 refine Z10 ?_
 refine cz H (fun c1 H=>?_) fun c1 H=>?_
 refine Z7 ?_
 cases H
 refine aF [] (by decide) ?_
 exact To
 refine Z5 ?_
 cases H
 refine aF [] (by decide) ?_
 exact To
theorem aIp (p0:Nat) (e0:Int):FnD Tryz.prog 140 [fEq (ptr p0)] [aA p0 29 [fI e0]] (.returning) [aA p0 29 [fI e0]]:=by
 refine aA8 Tryz.func140 rfl Tryz.ntmps140 rfl (fun β c₀ cs hc=>?_)
 refine aGX (v:= .nilIface) (cs':=c₀ :: cs) (by simp [recoverD,hc]) rfl rfl rfl rfl rfl rfl ⟨rfl,rfl⟩ ?_
 refine T_inS ?_
 refine Z2 ?_
 refine Yy (aAU rfl hh aAS (rfl:gU _=some true)) ?_
 refine Z3 ?_
 exact aAZ (u':= .returning) (.inr rfl) rfl (by cases c₀;cases hc;rfl) rfl rfl
theorem aLa (p0:Nat) (e0 e1:Int):FnD Tryz.prog 140 [fEq (ptr p0)] [aA p0 29 [fI e0]] (.panicking [{ v:=(.iface 240 (.agg #[.int .i64 e1])),recovered:=false }]) [aA p0 29 [fI e1]]:=by
 refine aA8 Tryz.func140 rfl Tryz.ntmps140 rfl (fun β c₀ cs hc=>?_)
 refine aGX (v:=(.iface 240 (.agg #[.int .i64 e1]))) (cs':={ c₀ with mode:= .panicking [{ v:=(.iface 240 (.agg #[.int .i64 e1])),recovered:=true }] } :: cs) (by simp [recoverD,hc]) rfl rfl rfl rfl rfl rfl ⟨rfl,rfl⟩ ?_
 refine T_inS ?_
 refine Z2 ?_
 refine Yy (aAU rfl hh aAS (rfl:gU _=some false)) ?_
 refine Z4 ?_
 refine Yy (aHn rfl hh aE0 aJw) ?_
 refine Z2 ?_
 refine aBH 11 rfl (mR [(.int .i64 e1)]) ?_
 refine Z1 ?_
 refine Tn (cF rfl aIW rfl) fun b1=>?_
 refine cM (φs':=[fI e1]) a1W rfl rfl (has rfl) (has rfl) (aI (aG a1W) bM) (sz rfl) rfl rfl rfl ?_
 refine Z2 ?_
 refine aL ?_
 refine Z12 ?_
 refine aW ?_
 refine cQ (φs':=[fI e1]) a1W rfl rfl (has rfl) (has rfl) (aG a1W) (sz rfl) rfl rfl ?_
 refine Z1 ?_
 refine aF [0] (by decide) ?_
 exact aAZ (u':= .panicking [{ v:=(.iface 240 (.agg #[.int .i64 e1])),recovered:=true }]) (.inr rfl) rfl rfl rfl rfl
def bQ (a0:Bool):Option (Unit ⊕ Value):=
 bif a0 then
  some (Sum.inl ())
 else
  some (Sum.inr (.iface 240 (.agg ([(.int .i64 2)]:List Value).toArray)))
theorem aV  (a0:Bool) (r:Unit ⊕ Value) (H:bQ a0=some r):FnE Tryz.prog 159 [aH a0] [] r (fun r=>dA []) (fun r=>[]):=by
 unfold bQ at H
 refine gO Tryz.func159 rfl Tryz.ntmps159 rfl (fun β=>?_)
 refine Z4 ?_
 refine cz H (fun c1 H=>?_) fun c1 H=>?_
 refine Z2 ?_
 cases H
 refine fS ?_
 exact cK (.inr rfl) rfl rfl
 refine Z2 ?_
 refine Yy (fK (ψs:=[fI 2]) rfl aJR rfl (bL.cons (has rfl) (cI (aG a1W)) bL.nil) rfl) ?_
 refine Yy (pY rfl (iA rfl (uK [(.int .i64 2)])) aE0) ?_
 refine aHZ a1W rfl (has rfl) ?_
 cases H
 exact aR
def aAF  :Option (aE ByteArray Bool):=
 some (aE.upd (aE.upd (aE.upd (aE.upd (aE.upd (aE.upd (aE.upd (aE.upd (aE.upd (aE.upd (aE.none:aE ByteArray Bool) ({ data:=#[97,110,100] }) true) ({ data:=#[100,101,102] }) true) ({ data:=#[101,108,115,101] }) true) ({ data:=#[103,111] }) true) ({ data:=#[105,102] }) true) ({ data:=#[105,110] }) true) ({ data:=#[112,108,97,99,101] }) true) ({ data:=#[115,116,111,112] }) true) ({ data:=#[116,104,101,110] }) true) ({ data:=#[119,97,116,99,104] }) true)
theorem aI5   (r:aE ByteArray Bool) (H:aAF=some r):FnS Tryz.prog 173 [] [] (fMap kStr (fun y=>aH y) r) (fun _=>[]):=by
 unfold aAF at H
 refine bS Tryz.func173 rfl Tryz.ntmps173 rfl (fun β=>?_)
 refine Z4 ?_
 refine Tn (uM (fun y=>aH y) kStr rfl) fun b1=>?_
 refine iM (k:={ data:=#[97,110,100] }) (y:=true) a1W (.inr rfl) rfl (has rfl) (has rfl) rfl (has rfl) rfl kP ?_
 refine iM (k:={ data:=#[100,101,102] }) (y:=true) a1W (.inr rfl) rfl (has rfl) (has rfl) rfl (has rfl) rfl kP ?_
 refine iM (k:={ data:=#[101,108,115,101] }) (y:=true) a1W (.inr rfl) rfl (has rfl) (has rfl) rfl (has rfl) rfl kP ?_
 refine iM (k:={ data:=#[103,111] }) (y:=true) a1W (.inr rfl) rfl (has rfl) (has rfl) rfl (has rfl) rfl kP ?_
 refine iM (k:={ data:=#[105,102] }) (y:=true) a1W (.inr rfl) rfl (has rfl) (has rfl) rfl (has rfl) rfl kP ?_
 refine iM (k:={ data:=#[105,110] }) (y:=true) a1W (.inr rfl) rfl (has rfl) (has rfl) rfl (has rfl) rfl kP ?_
 refine iM (k:={ data:=#[112,108,97,99,101] }) (y:=true) a1W (.inr rfl) rfl (has rfl) (has rfl) rfl (has rfl) rfl kP ?_
 refine iM (k:={ data:=#[115,116,111,112] }) (y:=true) a1W (.inr rfl) rfl (has rfl) (has rfl) rfl (has rfl) rfl kP ?_
 refine iM (k:={ data:=#[116,104,101,110] }) (y:=true) a1W (.inr rfl) rfl (has rfl) (has rfl) rfl (has rfl) rfl kP ?_
 refine iM (k:={ data:=#[119,97,116,99,104] }) (y:=true) a1W (.inr rfl) rfl (has rfl) (has rfl) rfl (has rfl) rfl kP ?_
 refine Z4 ?_
 refine dI (φ:=fMap kStr (fun y=>aH y) (aE.upd (aE.upd (aE.upd (aE.upd (aE.upd (aE.upd (aE.upd (aE.upd (aE.upd (aE.upd (aE.none:aE ByteArray Bool) ({ data:=#[97,110,100] }) true) ({ data:=#[100,101,102] }) true) ({ data:=#[101,108,115,101] }) true) ({ data:=#[103,111] }) true) ({ data:=#[105,102] }) true) ({ data:=#[105,110] }) true) ({ data:=#[112,108,97,99,101] }) true) ({ data:=#[115,116,111,112] }) true) ({ data:=#[116,104,101,110] }) true) ({ data:=#[119,97,116,99,104] }) true)) (v:= .map (some b1)) [0,1,2] aGW fz ?_
 refine dH ?_
 cases H
 exact To
def jQ (a0:ByteArray):Nat->Int->Option ((Unit) ⊕ (Bool))
| 0,_=>none
| k+1,x2=>
 if x2<(a0.size:Int)then
  (sidx a0 x2).bind fun z1=>
  if z1<97 then
   (some false).bind fun r=>some (Sum.inr r)
  else
   (sidx a0 x2).bind fun z2=>
   if 122<z2 then
    (some false).bind fun r=>some (Sum.inr r)
   else
    (chk (x2+1)).bind fun z3=>
    jQ a0 k z3
 else
  some (Sum.inl ())
def qT (AA:Nat) (a0:ByteArray):Option (Bool):=
 (jQ a0 AA 0).bind fun o=>match o with
 | Sum.inr r=>some r
 | Sum.inl _=>
 (if 0<(a0.size:Int)then
  if (a0.size:Int)<=8 then
   (aAF).bind fun y1=>
   some (!((y1.get a0).getD false))
  else
   some false
 else
  some false).bind fun x3=>
 some x3
theorem aLk (AA:Nat)  (a0:ByteArray) (r:Bool) (H:qT AA a0=some r):FnS Tryz.prog 160 [fQ a0] [] (aH r) (fun _=>[]):=by
 unfold qT at H
 refine bS Tryz.func160 rfl Tryz.ntmps160 rfl (fun β=>?_)
 revert H;refine B3z fun o1 H Hr1=>?_
 refine aQ (ι:=Unit) (fun i=>o1=Sum.inl ()) (fun i=>[(0,fQ a0)]) (fun i=>[]) ?_ ?_
 refine Z2 ?_
 refine Yy (tK rfl hh mQ) ?_
 refine Z3 ?_
 refine Th (ι:=Int) (fun i=>jQ a0 i.1 i.2=_) (fun i=>[(0,fQ a0),(5,fI (a0.size:Int)),(6,fI i.2)]) (fun i=>[]) (AA,0) H (fun _ h=>nomatch h) ?_
 clear H;rintro k1 x2 H;dsimp only at H ⊢;rw [jQ]at H
 refine Z3 ?_
 refine aL ?_
 revert H;refine is (fun c1 H=>?_) fun c1 H=>?_
 refine Z3 ?_
 refine aL ?_
 revert H;refine B8z fun z1 h1 H=>?_
 refine Yy (aA3 rfl hh hh mQ h1) ?_
 revert H;refine I2z (fun c2 H=>?_) fun c2 H=>?_
 refine Z12 ?_
 revert H;refine B4z fun r1 H e1=>?_
 cases e1;cases Hr1
 cases H
 exact To
 revert H;refine B2z fun z2 h2 H=>?_
 refine Yg c2 (aA3 rfl hh hh mQ h2) ?_
 revert H;refine I3z (fun c3 H=>?_) fun c3 H=>?_
 revert H;refine hO fun r2 H e2=>?_
 cases e2;cases Hr1
 cases H
 exact To
 revert H;refine B5z fun z3 h3 H=>?_
 refine Z3 ?_
 exact Tm ((k1,z3)) ⟨H,ls⟩
 refine Z6 ?_
 exact Tm (()) (ij H)
 rintro i hi;subst o1;replace H:=Hr1;clear Hr1;try dsimp only at H ⊢
 revert H;refine bs fun o2 H Hr2=>?_
 refine aQ (fun i=>o2=i) (fun i=>[(2,aH i)]) (fun i=>[]) ?_ ?_
 refine Z2 ?_
 refine Yy (tK rfl hh mQ) ?_
 revert H;refine I2z (fun c4 H=>?_) fun c4 H=>?_
 refine Z1 ?_
 refine Yg c4 (tK rfl hh mQ) ?_
 revert H;refine I3z (fun c5 H=>?_) fun c5 H=>?_
 revert H;refine bs fun y1 h4 H=>?_
 refine Tc (aI5 _ h4) ?_
 refine Z1 ?_
 refine Yg c5 (o_lookup (zα:=false) (k:=a0) rfl hh hh rfl kP Ent.rfl) ?_
 refine Z4 ?_
 exact Tm (!((y1.get a0).getD false)) (ij H)
 refine Z7 ?_
 exact Tm (false) (ij H)
 refine Z12 ?_
 exact Tm (false) (ij H)
 rintro x3 hi;subst o2;replace H:=Hr2;clear Hr2;try dsimp only at H ⊢
 refine Z1 ?_
 cases H
 exact To
def kA (a0:Int):Option (Value):=
 (if a0=1 then
  some (decide (a0=1))
 else
  some (decide (a0=7))).bind fun x1=>
 bif x1 then
  some ((.iface 271 (.int .i64 0)):Value)
 else
  if a0=3 then
   some ((.iface 271 (.int .i64 2)):Value)
  else
   if a0=2 then
    some ((.iface 259 (.agg ([]:List Value).toArray)):Value)
   else
    if a0=5 then
     some ((.iface 262 (.agg ([]:List Value).toArray)):Value)
    else
     (if a0=6 then
      some (decide (a0=6))
     else
      some (decide (a0=8))).bind fun x2=>
     bif x2 then
      some ((.iface 260 (.agg ([]:List Value).toArray)):Value)
     else
      if a0=4 then
       some ((.iface 261 (.agg ([]:List Value).toArray)):Value)
      else
       some (Go.Value.nilIface:Value)
theorem aKD  (a0:Int) (r:Value) (H:kA a0=some r):FnS Tryz.prog 174 [fI a0] [] (lK r) (fun _=>[]):=by
 unfold kA at H
 refine bS Tryz.func174 rfl Tryz.ntmps174 rfl (fun β=>?_)
 refine Z3 ?_
 refine aL ?_
 revert H;refine B4z fun o1 H Hr1=>?_
 refine aQ (fun i=>o1=i) (fun i=>[(3,fI a0),(4,aH i)]) (fun i=>[]) ?_ ?_
 revert H;refine I4z (fun c1 H=>?_) fun c1 H=>?_
 refine Z3 ?_
 exact Tm (decide (a0=1)) (ij H)
 refine Z5 ?_
 exact Tm (decide (a0=7)) (ij H)
 rintro x1 hi;subst o1;replace H:=Hr1;clear Hr1;try dsimp only at H ⊢
 refine cz H (fun c2 H=>?_) fun c2 H=>?_
 refine Z2 ?_
 refine Yy (pY rfl hh aEX) ?_
 refine Z5 ?_
 cases H
 exact mX rfl (nV rfl (eZ trivial)) rfl
 refine I5 H (fun c3 H=>?_) fun c3 H=>?_
 refine Z2 ?_
 refine Yy (pY rfl hh aEX) ?_
 refine Z5 ?_
 cases H
 exact mX rfl (nV rfl (eZ trivial)) rfl
 refine I5 H (fun c4 H=>?_) fun c4 H=>?_
 refine Z2 ?_
 refine Yy (fK (ψs:=[]) rfl aJk rfl bL.nil rfl) ?_
 refine Yy (pY rfl (iA rfl (uK [])) aGu) ?_
 refine Z5 ?_
 cases H
 exact mX rfl (nV rfl (eZ trivial)) rfl
 refine I5 H (fun c5 H=>?_) fun c5 H=>?_
 refine Z2 ?_
 refine Yy (fK (ψs:=[]) rfl aId rfl bL.nil rfl) ?_
 refine Yy (pY rfl (iA rfl (uK [])) aGa) ?_
 refine Z5 ?_
 cases H
 exact mX rfl (nV rfl (eZ trivial)) rfl
 revert H;refine B1z fun o2 H Hr2=>?_
 refine aQ (fun i=>o2=i) (fun i=>[(3,fI a0),(19,aH i)]) (fun i=>[]) ?_ ?_
 revert H;refine I4z (fun c6 H=>?_) fun c6 H=>?_
 refine Z3 ?_
 exact Tm (decide (a0=6)) (ij H)
 refine Z5 ?_
 exact Tm (decide (a0=8)) (ij H)
 rintro x2 hi;subst o2;replace H:=Hr2;clear Hr2;try dsimp only at H ⊢
 refine cz H (fun c7 H=>?_) fun c7 H=>?_
 refine Z2 ?_
 refine Yy (fK (ψs:=[]) rfl aLh rfl bL.nil rfl) ?_
 refine Yy (pY rfl (iA rfl (uK [])) aF7) ?_
 refine Z5 ?_
 cases H
 exact mX rfl (nV rfl (eZ trivial)) rfl
 refine I5 H (fun c8 H=>?_) fun c8 H=>?_
 refine Z2 ?_
 refine Yy (fK (ψs:=[]) rfl aIt rfl bL.nil rfl) ?_
 refine Yy (pY rfl (iA rfl (uK [])) aGx) ?_
 refine Z5 ?_
 cases H
 exact mX rfl (nV rfl (eZ trivial)) rfl
 refine Z8 ?_
 cases H
 exact mX rfl (nV rfl (eZ trivial)) rfl
open Go.SX Go.SW Go.Dt
def rP (rec_scope_exp_1:Ah->Int->Int->Int->Option (Int ⊕ Value)) (a0:Ah) (a1:Int) (w1:Int):Nat->Int->Int->Option (Int ⊕ Value)
| 0,_,_=>none
| k+1,x4,x5=>
 if x4<(a0.AW.length:Int)then
  (idx a0.AW x4).bind fun y12=>
  (chk (a1+1)).bind fun z2=>
  (rec_scope_exp_1 (⟨y12.Op,y12.N,y12.AW⟩:Ah) z2 x5 w1).bind fun y13=>
  match y13 with
  | Sum.inr pv12=>some (Sum.inr pv12)
  | Sum.inl y13=>
  (chk (x4+1)).bind fun z3=>
  rP rec_scope_exp_1 a0 a1 w1 k z3 y13
 else
  some (Sum.inl x5)
def oD:Nat->Ah->Int->Int->Int->Option (Int ⊕ Value)
| 0,_,_,_,_=>none
| AA+1,a0,a1,w0,w1=>
 (chk (w0+1)).bind fun z1=>
 (if z1<=60 then
  (bQ (decide (a1<=12))).bind fun y1=>
  match y1 with
  | Sum.inr pv1=>(some (Sum.inr pv1)).bind fun r=>some (Sum.inr r)
  | Sum.inl y1=>
  some (Sum.inl ())
 else
  (bQ false).bind fun y2=>
  match y2 with
  | Sum.inr pv2=>(some (Sum.inr pv2)).bind fun r=>some (Sum.inr r)
  | Sum.inl y2=>
  some (Sum.inl ())).bind fun o=>match o with
 | Sum.inr r=>some r
 | Sum.inl _=>
 (if a0.Op=1 then
  if (-1000000000)<=a0.N then
   if a0.N<=1000000000 then
    (bQ (decide ((a0.AW.length:Int)=0))).bind fun y3=>
    match y3 with
    | Sum.inr pv3=>(some (Sum.inr pv3)).bind fun r=>some (Sum.inr r)
    | Sum.inl y3=>
    some (Sum.inl ())
   else
    (bQ false).bind fun y4=>
    match y4 with
    | Sum.inr pv4=>(some (Sum.inr pv4)).bind fun r=>some (Sum.inr r)
    | Sum.inl y4=>
    some (Sum.inl ())
  else
   (bQ false).bind fun y5=>
   match y5 with
   | Sum.inr pv5=>(some (Sum.inr pv5)).bind fun r=>some (Sum.inr r)
   | Sum.inl y5=>
   some (Sum.inl ())
 else
  if a0.Op=2 then
   if 0<=a0.N then
    if a0.N<w1 then
     (bQ (decide ((a0.AW.length:Int)=0))).bind fun y6=>
     match y6 with
     | Sum.inr pv6=>(some (Sum.inr pv6)).bind fun r=>some (Sum.inr r)
     | Sum.inl y6=>
     some (Sum.inl ())
    else
     (bQ false).bind fun y7=>
     match y7 with
     | Sum.inr pv7=>(some (Sum.inr pv7)).bind fun r=>some (Sum.inr r)
     | Sum.inl y7=>
     some (Sum.inl ())
   else
    (bQ false).bind fun y8=>
    match y8 with
    | Sum.inr pv8=>(some (Sum.inr pv8)).bind fun r=>some (Sum.inr r)
    | Sum.inl y8=>
    some (Sum.inl ())
  else
   (if a0.Op=3 then
    some (decide (a0.Op=3))
   else
    if a0.Op=4 then
     some (decide (a0.Op=4))
    else
     if a0.Op=5 then
      some (decide (a0.Op=5))
     else
      if a0.Op=6 then
       some (decide (a0.Op=6))
      else
       some (decide (a0.Op=7))).bind fun x1=>
   bif x1 then
    if a0.N=0 then
     (bQ (decide ((a0.AW.length:Int)=2))).bind fun y9=>
     match y9 with
     | Sum.inr pv9=>(some (Sum.inr pv9)).bind fun r=>some (Sum.inr r)
     | Sum.inl y9=>
     some (Sum.inl ())
    else
     (bQ false).bind fun y10=>
     match y10 with
     | Sum.inr pv10=>(some (Sum.inr pv10)).bind fun r=>some (Sum.inr r)
     | Sum.inl y10=>
     some (Sum.inl ())
   else
    (bQ false).bind fun y11=>
    match y11 with
    | Sum.inr pv11=>(some (Sum.inr pv11)).bind fun r=>some (Sum.inr r)
    | Sum.inl y11=>
    some (Sum.inl ())).bind fun o=>match o with
 | Sum.inr r=>some r
 | Sum.inl _=>
 rP (oD AA) a0 a1 w1 AA 0 z1
theorem aFz:∀ (AA:Nat),(∀ (q0:Nat) (q2:Nat) (a0:Ah) (a1:Int) (w0:Int) (w1:Int) (r:Int ⊕ Value) (H:oD AA a0 a1 w0 w1=some r),FnE Tryz.prog 185 [fSt cZ a0,fI a1,fEq (.pointer (some ⟨q0,0,none⟩)),aU tI w1,fEq (.pointer (some ⟨q2,0,none⟩))] [aA q0 3 [fI w0],aA q2 263 [dG 185 [fEq (.pointer (some ⟨q0,0,none⟩)),aU tI w1,fEq (.pointer (some ⟨q2,0,none⟩))]]] r (fun r=>dA []) (fun r=>[aA q0 3 [fI r],aA q2 263 [dG 185 [fEq (.pointer (some ⟨q0,0,none⟩)),aU tI w1,fEq (.pointer (some ⟨q2,0,none⟩))]]])):=by
 intro AA
 induction AA with
 | zero=>exact fun q0 q2 a0 a1 w0 w1 r H=>(by rw [oD]at H;cases H)
 | succ AA ih=>
 have ih_scope_exp_1:=@ih
 refine ?_
 intro q0 q2 a0 a1 w0 w1 r H
 rw [oD]at H
 refine gO Tryz.func185 rfl Tryz.ntmps185 rfl (fun β=>?_)
 refine Z1 ?_
 refine Tn (cA rfl hh bT) fun b1=>?_
 refine B3 H fun z1 h1 H=>?_
 refine Z1 ?_
 refine aW ?_
 refine cQ (φs':=[fI z1]) a1W rfl rfl (has rfl) (has rfl) (aG a1W) (sz rfl) rfl rfl ?_
 revert H;refine B1z fun o1 H Hr1=>?_
 refine aQ (ι:=Unit) (fun i=>o1=Sum.inl ()) (fun i=>[(1,fI a1),(2,fEq (ptr q0)),(3,aU tI w1),(4,fEq (ptr q2)),(5,fEq (ptr b1))]) (fun i=>[aA q0 3 [fI z1],aA b1 143 [fI a0.Op,fI a0.N,gC a0.AW],aA q2 263 [dG 185 [fEq (ptr q0),aU tI w1,fEq (ptr q2)]]]) ?_ ?_
 revert H;refine I4z (fun c1 H=>?_) fun c1 H=>?_
 revert H;refine B3z fun y1 h2 H=>?_
 rcases y1 with y1 | pv1 <;> dsimp only at H
 refine Tc (aV _ _ h2).s ?_
 refine Z1 ?_
 exact Tm (()) (ij H)
 refine Tp (aV _ _ h2).pan ?_
 revert H;refine B1z fun r1 H e1=>?_
 cases e1;cases Hr1
 cases H
 exact aR
 revert H;refine B3z fun y2 h3 H=>?_
 rcases y2 with y2 | pv2 <;> dsimp only at H
 refine Tc (aV _ _ h3).s ?_
 refine Z1 ?_
 exact Tm (()) (ij H)
 refine Tp (aV _ _ h3).pan ?_
 revert H;refine B1z fun r2 H e2=>?_
 cases e2;cases Hr1
 cases H
 exact aR
 rintro i hi;subst o1;replace H:=Hr1;clear Hr1;try dsimp only at H ⊢
 revert H;refine bs fun o2 H Hr2=>?_
 refine aQ (ι:=Unit) (fun i=>o2=Sum.inl ()) (fun i=>[(1,fI a1),(2,fEq (ptr q0)),(4,fEq (ptr q2)),(5,fEq (ptr b1))]) (fun i=>[aA q0 3 [fI z1],aA b1 143 [fI a0.Op,fI a0.N,gC a0.AW],aA q2 263 [dG 185 [fEq (ptr q0),aU tI w1,fEq (ptr q2)]]]) ?_ ?_
 revert H;refine I9z (fun c2 H=>?_) fun c2 H=>?_
 revert H;refine I6z (fun c3 H=>?_) fun c3 H=>?_
 revert H;refine I5z (fun c4 H=>?_) fun c4 H=>?_
 refine Z1 ?_
 refine Yh 1 rfl c4 (gY rfl hh (sc rfl) rfl (iK gZ)) ?_
 revert H;refine B3z fun y3 h4 H=>?_
 rcases y3 with y3 | pv3 <;> dsimp only at H
 refine Tc (aV _ _ h4).s ?_
 refine Z3 ?_
 exact Tm (()) (ij H)
 refine Tp (aV _ _ h4).pan ?_
 revert H;refine B2z fun r3 H e3=>?_
 cases e3;cases Hr2
 cases H
 exact aR
 revert H;refine B5z fun y4 h5 H=>?_
 rcases y4 with y4 | pv4 <;> dsimp only at H
 refine Tc (aV _ _ h5).s ?_
 refine Z3 ?_
 exact Tm (()) (ij H)
 refine Tp (aV _ _ h5).pan ?_
 revert H;refine B2z fun r4 H e4=>?_
 cases e4;cases Hr2
 cases H
 exact aR
 revert H;refine hO fun y5 h6 H=>?_
 rcases y5 with y5 | pv5 <;> dsimp only at H
 refine Tc (aV _ _ h6).s ?_
 refine Z3 ?_
 exact Tm (()) (ij H)
 refine Tp (aV _ _ h6).pan ?_
 revert H;refine B2z fun r5 H e5=>?_
 cases e5;cases Hr2
 cases H
 exact aR
 revert H;refine I5z (fun c5 H=>?_) fun c5 H=>?_
 revert H;refine I6z (fun c6 H=>?_) fun c6 H=>?_
 revert H;refine I6z (fun c7 H=>?_) fun c7 H=>?_
 refine Z1 ?_
 refine Yh 1 rfl c7 (gY rfl hh (sc rfl) rfl (iK gZ)) ?_
 revert H;refine B3z fun y6 h7 H=>?_
 rcases y6 with y6 | pv6 <;> dsimp only at H
 refine Tc (aV _ _ h7).s ?_
 refine Z3 ?_
 exact Tm (()) (ij H)
 refine Tp (aV _ _ h7).pan ?_
 revert H;refine B2z fun r6 H e6=>?_
 cases e6;cases Hr2
 cases H
 exact aR
 revert H;refine B5z fun y7 h8 H=>?_
 rcases y7 with y7 | pv7 <;> dsimp only at H
 refine Tc (aV _ _ h8).s ?_
 refine Z3 ?_
 exact Tm (()) (ij H)
 refine Tp (aV _ _ h8).pan ?_
 revert H;refine B2z fun r7 H e7=>?_
 cases e7;cases Hr2
 cases H
 exact aR
 revert H;refine jR fun y8 h9 H=>?_
 rcases y8 with y8 | pv8 <;> dsimp only at H
 refine Tc (aV _ _ h9).s ?_
 refine Z3 ?_
 exact Tm (()) (ij H)
 refine Tp (aV _ _ h9).pan ?_
 revert H;refine B2z fun r8 H e8=>?_
 cases e8;cases Hr2
 cases H
 exact aR
 revert H;refine B1z fun o3 H Hr3=>?_
 refine aQ (fun i=>o3=i) (fun i=>[(1,fI a1),(2,fEq (ptr q0)),(4,fEq (ptr q2)),(5,fEq (ptr b1)),(56,aH i)]) (fun i=>[aA q0 3 [fI z1],aA b1 143 [fI a0.Op,fI a0.N,gC a0.AW],aA q2 263 [dG 185 [fEq (ptr q0),aU tI w1,fEq (ptr q2)]]]) ?_ ?_
 revert H;refine I4z (fun c8 H=>?_) fun c8 H=>?_
 refine Z3 ?_
 exact Tm (decide (a0.Op=3)) (ij H)
 revert H;refine I5z (fun c9 H=>?_) fun c9 H=>?_
 refine Z3 ?_
 exact Tm (decide (a0.Op=4)) (ij H)
 revert H;refine I5z (fun c10 H=>?_) fun c10 H=>?_
 refine Z3 ?_
 exact Tm (decide (a0.Op=5)) (ij H)
 revert H;refine I5z (fun c11 H=>?_) fun c11 H=>?_
 refine Z3 ?_
 exact Tm (decide (a0.Op=6)) (ij H)
 refine Z5 ?_
 exact Tm (decide (a0.Op=7)) (ij H)
 rintro x1 hi;subst o3;replace H:=Hr3;clear Hr3;try dsimp only at H ⊢
 revert H;refine cs (fun c12 H=>?_) fun c12 H=>?_
 revert H;refine I6z (fun c13 H=>?_) fun c13 H=>?_
 refine Z1 ?_
 refine Yh 1 rfl c13 (gY rfl hh (sc rfl) rfl (iK gZ)) ?_
 revert H;refine B3z fun y9 h10 H=>?_
 rcases y9 with y9 | pv9 <;> dsimp only at H
 refine Tc (aV _ _ h10).s ?_
 refine Z3 ?_
 exact Tm (()) (ij H)
 refine Tp (aV _ _ h10).pan ?_
 revert H;refine B2z fun r9 H e9=>?_
 cases e9;cases Hr2
 cases H
 exact aR
 revert H;refine B5z fun y10 h11 H=>?_
 rcases y10 with y10 | pv10 <;> dsimp only at H
 refine Tc (aV _ _ h11).s ?_
 refine Z3 ?_
 exact Tm (()) (ij H)
 refine Tp (aV _ _ h11).pan ?_
 revert H;refine B2z fun r10 H e10=>?_
 cases e10;cases Hr2
 cases H
 exact aR
 revert H;refine B2z fun y11 h12 H=>?_
 rcases y11 with y11 | pv11 <;> dsimp only at H
 refine Tc (aV _ _ h12).s ?_
 refine Z3 ?_
 exact Tm (()) (ij H)
 refine Tp (aV _ _ h12).pan ?_
 revert H;refine B2z fun r11 H e11=>?_
 cases e11;cases Hr2
 cases H
 exact aR
 rintro i hi;subst o2;replace H:=Hr2;clear Hr2;try dsimp only at H ⊢
 refine Z2 ?_
 refine Yo 1 rfl (gY rfl hh (sc rfl) rfl (iK gZ)) ?_
 refine Z4 ?_
 refine Th (ι:=Int × Int) (fun i=>rP (oD AA) a0 a1 w1 i.1 i.2.1 i.2.2=_) (fun i=>[(1,fI a1),(2,fEq (ptr q0)),(4,fEq (ptr q2)),(73,fSl cZ a0.AW),(74,fI (a0.AW.length:Int)),(75,fI i.2.1)]) (fun i=>[aA q0 3 [fI i.2.2],aA b1 143 [fI a0.Op,fI a0.N,gC a0.AW],aA q2 263 [dG 185 [fEq (ptr q0),aU tI w1,fEq (ptr q2)]]]) (AA,0,z1) H (fun _ h=>nomatch h) ?_
 clear H;rintro k1 ⟨x4,x5⟩ H;dsimp only at H ⊢;rw [rP]at H
 refine Z3 ?_
 refine aL ?_
 refine iz H (fun c14 H=>?_) fun c14 H=>?_
 refine Z3 ?_
 refine aL ?_
 refine B2 H fun y12 h13 H=>?_
 refine Z2 ?_
 refine Tn (cF rfl aDl rfl) fun b2=>?_
 refine cM (φs':=[fI y12.Op,fI y12.N,gC y12.AW]) a1W rfl rfl (has rfl) (has rfl) (aI (aG a1W) (aI (aG a1W) (aI (aBi) bM))) (sz rfl) rfl rfl rfl ?_
 refine B5 H fun z2 h14 H=>?_
 refine Z1 ?_
 refine bA ?_
 refine aM ?_
 refine bz H fun y13 h15 H=>?_
 rcases y13 with y13 | pv12 <;> dsimp only at H
 refine iI a1W rfl rfl rfl (has rfl) (aS.cons (has rfl) (aS.cons (has rfl) aS.nil)) rfl (cb rfl) (ih_scope_exp_1 q0 q2 (⟨y12.Op,y12.N,y12.AW⟩:Ah) z2 x5 w1 (Sum.inl y13) h15).s rfl ?_
 refine B4 H fun z3 h16 H=>?_
 refine Z3 ?_
 refine aF [0,3,1] (by decide) ?_
 exact Tm ((k1,z3,y13)) ⟨H,ls⟩
 refine lJ a1W rfl (has rfl) (aS.cons (has rfl) (aS.cons (has rfl) aS.nil)) rfl (cb rfl) (ih_scope_exp_1 q0 q2 (⟨y12.Op,y12.N,y12.AW⟩:Ah) z2 x5 w1 (Sum.inr pv12) h15).pan rfl ?_
 refine Z4 ?_
 cases H
 exact aR
 refine Z5 ?_
 cases H
 refine fS ?_
 refine aF [0,2] (by decide) ?_
 exact cK (.inr rfl) rfl rfl
def yI (AA:Nat) (a0:Ah) (a1:Int):Option (Unit ⊕ Value):=
 (oD AA (⟨a0.Op,a0.N,a0.AW⟩:Ah) 1 0 a1).bind fun y1=>
 match y1 with
 | Sum.inr pv1=>some (Sum.inr pv1)
 | Sum.inl y1=>
 some (Sum.inl ())
theorem aEu (AA:Nat)  (a0:Ah) (a1:Int) (r:Unit ⊕ Value) (H:yI AA a0 a1=some r):FnE Tryz.prog 175 [fSt cZ a0,fI a1] [] r (fun r=>dA []) (fun r=>[]):=by
 unfold yI at H
 refine gO Tryz.func175 rfl Tryz.ntmps175 rfl (fun β=>?_)
 refine Z1 ?_
 refine Tn (cA rfl hh bT) fun b1=>?_
 refine Tn (cA rfl (has rfl) (cI (aG a1W))) fun b2=>?_
 refine Z2 ?_
 refine Tn (cF rfl sM rfl) fun b3=>?_
 refine cQ (φs':=[fI 0]) a1W rfl rfl (has rfl) (has rfl) (aG a1W) (sz rfl) rfl rfl ?_
 refine Z2 ?_
 refine Tn (cF rfl aLj rfl) fun b4=>?_
 refine Z2 ?_
 refine aM ?_
 refine dI (φ:=aU tI a1) (v:=ptr b2) [3] (iH aJ.rfl) fz ?_
 refine dH ?_
 refine Yy (oN rfl (aS.cons hh (aS.cons hh (aS.cons hh aS.nil)))) ?_
 refine cQ (φs':=[dG 185 [fEq (ptr b3),aU tI a1,fEq (ptr b4)]]) a1W rfl rfl (has rfl) (has rfl) (leaf_clo) (sz rfl) rfl rfl ?_
 refine Z4 ?_
 refine aW ?_
 refine bz H fun y1 h1 H=>?_
 rcases y1 with y1 | pv1 <;> dsimp only at H
 refine iI a1W rfl rfl rfl (has rfl) (aS.cons (has rfl) (aS.cons (has rfl) aS.nil)) rfl (cb rfl) (aFz AA b3 b4 (⟨a0.Op,a0.N,a0.AW⟩:Ah) 1 0 a1 (Sum.inl y1) h1).s rfl ?_
 refine Z1 ?_
 cases H
 refine fS ?_
 refine aF [] (by decide) ?_
 exact cK (.inr rfl) rfl rfl
 refine lJ a1W rfl (has rfl) (aS.cons (has rfl) (aS.cons (has rfl) aS.nil)) rfl (cb rfl) (aFz AA b3 b4 (⟨a0.Op,a0.N,a0.AW⟩:Ah) 1 0 a1 (Sum.inr pv1) h1).pan rfl ?_
 cases H
 exact aR
open Go.SX Go.SW Go.Dt
def tV (a0:Int) (w0:AN):Option (Unit ⊕ Value):=
 if 0<=a0 then
  (bQ (decide (a0<=(w0.AP.length:Int)))).bind fun y1=>
  match y1 with
  | Sum.inr pv1=>some (Sum.inr pv1)
  | Sum.inl y1=>
  some (Sum.inl ())
 else
  (bQ false).bind fun y2=>
  match y2 with
  | Sum.inr pv2=>some (Sum.inr pv2)
  | Sum.inl y2=>
  some (Sum.inl ())
theorem aBx  (a0:Int) (w0:AN) (r:Unit ⊕ Value) (H:tV a0 w0=some r):FnE Tryz.prog 186 [fI a0,aU aB w0] [] r (fun r=>dA []) (fun r=>[]):=by
 unfold tV at H
 refine gO Tryz.func186 rfl Tryz.ntmps186 rfl (fun β=>?_)
 refine I4 H (fun c1 H=>?_) fun c1 H=>?_
 refine B6 H fun y1 h1 H=>?_
 rcases y1 with y1 | pv1 <;> dsimp only at H
 refine Tc (aV _ _ h1).s ?_
 refine Z1 ?_
 cases H
 refine fS ?_
 exact cK (.inr rfl) rfl rfl
 refine Tp (aV _ _ h1).pan ?_
 cases H
 exact aR
 refine B6 H fun y2 h2 H=>?_
 rcases y2 with y2 | pv2 <;> dsimp only at H
 refine Tc (aV _ _ h2).s ?_
 refine Z1 ?_
 cases H
 refine fS ?_
 exact cK (.inr rfl) rfl rfl
 refine Tp (aV _ _ h2).pan ?_
 cases H
 exact aR
def sE (a0:AN):Nat->Int->Option ((Unit) ⊕ (Unit ⊕ Value))
| 0,_=>none
| k+1,x2=>
 if x2<(((⟨a0.AQ,a0.AP,a0.AO⟩:AN).AQ).length:Int)then
  ((idx ((⟨a0.AQ,a0.AP,a0.AO⟩:AN).AQ) x2).bind fun y4=>
  (tV y4.At (⟨a0.AQ,a0.AP,a0.AO⟩:AN)).bind fun y5=>
  match y5 with
  | Sum.inr pv4=>((some (Sum.inr pv4)).bind fun r=>some (Sum.inr r)).bind fun r=>some (Sum.inr r)
  | Sum.inl y5=>
  if 0<=y4.Au then
   (bQ (decide (y4.Au<=3))).bind fun y6=>
   match y6 with
   | Sum.inr pv5=>((some (Sum.inr pv5)).bind fun r=>some (Sum.inr r)).bind fun r=>some (Sum.inr r)
   | Sum.inl y6=>
   some (Sum.inl ())
  else
   (bQ false).bind fun y7=>
   match y7 with
   | Sum.inr pv6=>((some (Sum.inr pv6)).bind fun r=>some (Sum.inr r)).bind fun r=>some (Sum.inr r)
   | Sum.inl y7=>
   some (Sum.inl ())).bind fun o=>match o with
  | Sum.inr r=>some r
  | Sum.inl _=>
  (chk (x2+1)).bind fun z1=>
  sE a0 k z1
 else
  some (Sum.inl ())
def qU (a0:AN):Nat->Int->Option ((Unit) ⊕ (Unit ⊕ Value))
| 0,_=>none
| k+1,x4=>
 if x4<(((⟨a0.AQ,a0.AP,a0.AO⟩:AN).AP).length:Int)then
  ((idx ((⟨a0.AQ,a0.AP,a0.AO⟩:AN).AP) x4).bind fun y8=>
  if 0<=y8.In then
   (bQ (decide (y8.In<=x4))).bind fun y9=>
   match y9 with
   | Sum.inr pv7=>((some (Sum.inr pv7)).bind fun r=>some (Sum.inr r)).bind fun r=>some (Sum.inr r)
   | Sum.inl y9=>
   some (Sum.inl ())
  else
   (bQ false).bind fun y10=>
   match y10 with
   | Sum.inr pv8=>((some (Sum.inr pv8)).bind fun r=>some (Sum.inr r)).bind fun r=>some (Sum.inr r)
   | Sum.inl y10=>
   some (Sum.inl ())).bind fun o=>match o with
  | Sum.inr r=>some r
  | Sum.inl _=>
  (chk (x4+1)).bind fun z2=>
  qU a0 k z2
 else
  some (Sum.inl ())
def nG (AA:Nat) (a0:AN) (y11:Al):Nat->Int->(aE Int Bool)->Option ((aE Int Bool) ⊕ ((aE Int Bool) ⊕ (Unit ⊕ Value)))
| 0,_,_=>none
| k+1,x13,x14=>
 if x13<(y11.AZ.length:Int)then
  (idx y11.AZ x13).bind fun y15=>
  (if 0<=y15 then
   if y15<(((⟨a0.AQ,a0.AP,a0.AO⟩:AN).AQ).length:Int)then
    (idx ((⟨a0.AQ,a0.AP,a0.AO⟩:AN).AQ) y15).bind fun y16=>
    if y16.At=y11.At then
     (slc y11.AZ 0 x13).bind fun y17=>
     (pO AA y17 y15).bind fun y18=>
     (bQ (!y18)).bind fun y19=>
     match y19 with
     | Sum.inr pv12=>(((some (Sum.inr pv12)).bind fun r=>some (Sum.inr r)).bind fun r=>some (Sum.inr r)).bind fun r=>some (Sum.inr r)
     | Sum.inl y19=>
     some (Sum.inl ())
    else
     (bQ false).bind fun y20=>
     match y20 with
     | Sum.inr pv13=>(((some (Sum.inr pv13)).bind fun r=>some (Sum.inr r)).bind fun r=>some (Sum.inr r)).bind fun r=>some (Sum.inr r)
     | Sum.inl y20=>
     some (Sum.inl ())
   else
    (bQ false).bind fun y21=>
    match y21 with
    | Sum.inr pv14=>(((some (Sum.inr pv14)).bind fun r=>some (Sum.inr r)).bind fun r=>some (Sum.inr r)).bind fun r=>some (Sum.inr r)
    | Sum.inl y21=>
    some (Sum.inl ())
  else
   (bQ false).bind fun y22=>
   match y22 with
   | Sum.inr pv15=>(((some (Sum.inr pv15)).bind fun r=>some (Sum.inr r)).bind fun r=>some (Sum.inr r)).bind fun r=>some (Sum.inr r)
   | Sum.inl y22=>
   some (Sum.inl ())).bind fun o=>match o with
  | Sum.inr r=>some r
  | Sum.inl _=>
  (chk (x13+1)).bind fun z3=>
  nG AA a0 y11 k z3 (aE.upd x14 y15 true)
 else
  some (Sum.inl x14)
def pW (AA:Nat) (a0:AN):Nat->Int->(aE Int Bool)->Option ((aE Int Bool) ⊕ (Unit ⊕ Value))
| 0,_,_=>none
| k+1,x8,x9=>
 if x8<(((⟨a0.AQ,a0.AP,a0.AO⟩:AN).AO).length:Int)then
  ((idx ((⟨a0.AQ,a0.AP,a0.AO⟩:AN).AO) x8).bind fun y11=>
  (tV y11.At (⟨a0.AQ,a0.AP,a0.AO⟩:AN)).bind fun y12=>
  match y12 with
  | Sum.inr pv9=>((some (Sum.inr pv9)).bind fun r=>some (Sum.inr r)).bind fun r=>some (Sum.inr r)
  | Sum.inl y12=>
  (if 0<(y11.AZ.length:Int)then
   (bQ (decide ((y11.AZ.length:Int)<=3))).bind fun y13=>
   match y13 with
   | Sum.inr pv10=>(((some (Sum.inr pv10)).bind fun r=>some (Sum.inr r)).bind fun r=>some (Sum.inr r)).bind fun r=>some (Sum.inr r)
   | Sum.inl y13=>
   some (Sum.inl ())
  else
   (bQ false).bind fun y14=>
   match y14 with
   | Sum.inr pv11=>(((some (Sum.inr pv11)).bind fun r=>some (Sum.inr r)).bind fun r=>some (Sum.inr r)).bind fun r=>some (Sum.inr r)
   | Sum.inl y14=>
   some (Sum.inl ())).bind fun o=>match o with
  | Sum.inr r=>some r
  | Sum.inl _=>
  nG AA a0 y11 AA 0 x9).bind fun o=>match o with
  | Sum.inr r=>some r
  | Sum.inl x10=>
  (chk (x8+1)).bind fun z4=>
  pW AA a0 k z4 x10
 else
  some (Sum.inl x9)
def tY (AA:Nat) (a0:AN):Option (Unit ⊕ Value):=
 (if (a0.AQ.length:Int)<=30 then
  if (a0.AP.length:Int)<=30 then
   (bQ (decide ((a0.AO.length:Int)<=30))).bind fun y1=>
   match y1 with
   | Sum.inr pv1=>(some (Sum.inr pv1)).bind fun r=>some (Sum.inr r)
   | Sum.inl y1=>
   some (Sum.inl ())
  else
   (bQ false).bind fun y2=>
   match y2 with
   | Sum.inr pv2=>(some (Sum.inr pv2)).bind fun r=>some (Sum.inr r)
   | Sum.inl y2=>
   some (Sum.inl ())
 else
  (bQ false).bind fun y3=>
  match y3 with
  | Sum.inr pv3=>(some (Sum.inr pv3)).bind fun r=>some (Sum.inr r)
  | Sum.inl y3=>
  some (Sum.inl ())).bind fun o=>match o with
 | Sum.inr r=>some r
 | Sum.inl _=>
 (sE a0 AA 0).bind fun o=>match o with
 | Sum.inr r=>some r
 | Sum.inl _=>
 (qU a0 AA 0).bind fun o=>match o with
 | Sum.inr r=>some r
 | Sum.inl _=>
 (pW AA a0 AA 0 (aE.none:aE Int Bool)).bind fun o=>match o with
 | Sum.inr r=>some r
 | Sum.inl x5=>
 (bQ (decide ((x5.size:Int)=(((⟨a0.AQ,a0.AP,a0.AO⟩:AN).AQ).length:Int)))).bind fun y23=>
 match y23 with
 | Sum.inr pv16=>some (Sum.inr pv16)
 | Sum.inl y23=>
 some (Sum.inl ())
theorem aEf (AA:Nat)  (a0:AN) (r:Unit ⊕ Value) (H:tY AA a0=some r):FnE Tryz.prog 176 [fSt aB a0] [] r (fun r=>dA []) (fun r=>[]):=by
 unfold tY at H
 refine gO Tryz.func176 rfl Tryz.ntmps176 rfl (fun β=>?_)
 refine Z1 ?_
 refine Tn (cA rfl hh bT) fun b1=>?_
 revert H;refine B1z fun o1 H Hr1=>?_
 refine aQ (ι:=Unit) (fun i=>o1=Sum.inl ()) (fun i=>[(1,fEq (ptr b1))]) (fun i=>[aA b1 63 [fSl bC a0.AQ,fSl bD a0.AP,fSl bB a0.AO]]) ?_ ?_
 revert H;refine I6z (fun c1 H=>?_) fun c1 H=>?_
 revert H;refine I6z (fun c2 H=>?_) fun c2 H=>?_
 revert H;refine B5z fun y1 h1 H=>?_
 rcases y1 with y1 | pv1 <;> dsimp only at H
 refine Tc (aV _ _ h1).s ?_
 refine Z1 ?_
 exact Tm (()) (ij H)
 refine Tp (aV _ _ h1).pan ?_
 revert H;refine B1z fun r1 H e1=>?_
 cases e1;cases Hr1
 cases H
 exact aR
 revert H;refine B5z fun y2 h2 H=>?_
 rcases y2 with y2 | pv2 <;> dsimp only at H
 refine Tc (aV _ _ h2).s ?_
 refine Z1 ?_
 exact Tm (()) (ij H)
 refine Tp (aV _ _ h2).pan ?_
 revert H;refine B1z fun r2 H e2=>?_
 cases e2;cases Hr1
 cases H
 exact aR
 revert H;refine jR fun y3 h3 H=>?_
 rcases y3 with y3 | pv3 <;> dsimp only at H
 refine Tc (aV _ _ h3).s ?_
 refine Z1 ?_
 exact Tm (()) (ij H)
 refine Tp (aV _ _ h3).pan ?_
 revert H;refine B1z fun r3 H e3=>?_
 cases e3;cases Hr1
 cases H
 exact aR
 rintro i hi;subst o1;replace H:=Hr1;clear Hr1;try dsimp only at H ⊢
 refine Z1 ?_
 refine dI (φ:=aU aB a0) (v:=ptr b1) [1] (iH aJ.rfl) fz ?_
 refine dH ?_
 refine Yy (oN rfl (aS.cons hh aS.nil)) ?_
 revert H;refine B2z fun o2 H Hr2=>?_
 refine aQ (ι:=Unit) (fun i=>o2=Sum.inl ()) (fun i=>[(1,aU aB a0),(2,dG 186 [aU aB a0])]) (fun i=>[]) ?_ ?_
 refine Z7 ?_
 refine Th (ι:=Int) (fun i=>sE a0 i.1 i.2=_) (fun i=>[(1,aU aB a0),(2,dG 186 [aU aB a0]),(31,fSl bC (a0.AQ)),(32,fI ((a0.AQ).length:Int)),(33,fI i.2)]) (fun i=>[]) (AA,0) H (fun _ h=>nomatch h) ?_
 clear H;rintro k1 x2 H;dsimp only at H ⊢;rw [sE]at H
 refine Z3 ?_
 refine aL ?_
 revert H;refine is (fun c3 H=>?_) fun c3 H=>?_
 revert H;refine B3z fun o3 H Hr3=>?_
 refine aQ (ι:=Unit) (fun i=>o3=Sum.inl ()) (fun i=>[(1,aU aB a0),(2,dG 186 [aU aB a0]),(31,fSl bC (a0.AQ)),(32,fI ((a0.AQ).length:Int)),(33,fI x2)]) (fun i=>[]) ?_ ?_
 revert H;refine B2z fun y4 h4 H=>?_
 refine Z2 ?_
 refine Tn (cF rfl aFv rfl) fun b2=>?_
 refine cM (φs':=[fI y4.At,fI y4.Au]) a1W rfl rfl (has rfl) (has rfl) (aI (aG a1W) (aI (aG a1W) bM)) (sz rfl) rfl rfl rfl ?_
 revert H;refine B5z fun y5 h5 H=>?_
 rcases y5 with y5 | pv4 <;> dsimp only at H
 refine iI a1W rfl rfl rfl (has rfl) (aS.cons (has rfl) aS.nil) rfl (cb rfl) (aBx y4.At a0 (Sum.inl y5) h5).s rfl ?_
 revert H;refine I6z (fun c4 H=>?_) fun c4 H=>?_
 revert H;refine B4z fun y6 h6 H=>?_
 rcases y6 with y6 | pv5 <;> dsimp only at H
 refine Tc (aV _ _ h6).s ?_
 refine Z3 ?_
 refine aF [] (by decide) ?_
 exact Tm (()) (ij H)
 refine Tp (aV _ _ h6).pan ?_
 revert H;refine B2z fun r4 H e4=>?_
 cases e4;cases Hr3
 revert H;refine B3z fun r5 H e5=>?_
 cases e5;cases Hr2
 cases H
 exact aR
 revert H;refine B4z fun y7 h7 H=>?_
 rcases y7 with y7 | pv6 <;> dsimp only at H
 refine Tc (aV _ _ h7).s ?_
 refine Z3 ?_
 refine aF [] (by decide) ?_
 exact Tm (()) (ij H)
 refine Tp (aV _ _ h7).pan ?_
 revert H;refine B2z fun r6 H e6=>?_
 cases e6;cases Hr3
 revert H;refine B3z fun r7 H e7=>?_
 cases e7;cases Hr2
 cases H
 exact aR
 refine lJ a1W rfl (has rfl) (aS.cons (has rfl) aS.nil) rfl (cb rfl) (aBx y4.At a0 (Sum.inr pv4) h5).pan rfl ?_
 revert H;refine B3z fun r8 H e8=>?_
 cases e8;cases Hr3
 revert H;refine B3z fun r9 H e9=>?_
 cases e9;cases Hr2
 cases H
 exact aR
 rintro i hi;subst o3;replace H:=Hr3;clear Hr3;try dsimp only at H ⊢
 revert H;refine B1z fun z1 h8 H=>?_
 refine Z3 ?_
 exact Tm ((k1,z1)) ⟨H,ls⟩
 refine Z6 ?_
 exact Tm (()) (ij H)
 rintro i hi;subst o2;replace H:=Hr2;clear Hr2;try dsimp only at H ⊢
 revert H;refine bs fun o4 H Hr4=>?_
 refine aQ (ι:=Unit) (fun i=>o4=Sum.inl ()) (fun i=>[(1,aU aB a0),(2,dG 186 [aU aB a0])]) (fun i=>[]) ?_ ?_
 refine Z7 ?_
 refine Th (ι:=Int) (fun i=>qU a0 i.1 i.2=_) (fun i=>[(1,aU aB a0),(2,dG 186 [aU aB a0]),(52,fSl bD (a0.AP)),(53,fI ((a0.AP).length:Int)),(54,fI i.2)]) (fun i=>[]) (AA,0) H (fun _ h=>nomatch h) ?_
 clear H;rintro k2 x4 H;dsimp only at H ⊢;rw [qU]at H
 refine Z3 ?_
 refine aL ?_
 revert H;refine is (fun c5 H=>?_) fun c5 H=>?_
 revert H;refine B3z fun o5 H Hr5=>?_
 refine aQ (ι:=Unit) (fun i=>o5=Sum.inl ()) (fun i=>[(1,aU aB a0),(2,dG 186 [aU aB a0]),(52,fSl bD (a0.AP)),(53,fI ((a0.AP).length:Int)),(54,fI x4)]) (fun i=>[]) ?_ ?_
 revert H;refine B3z fun y8 h9 H=>?_
 refine Z2 ?_
 refine Tn (cF rfl qJ rfl) fun b3=>?_
 refine Z1 ?_
 refine cM (φs':=[fI y8.In,fI y8.AU]) a1W rfl rfl (has rfl) (has rfl) (aI (aG a1W) (aI (aG a1W) bM)) (sz rfl) rfl rfl rfl ?_
 revert H;refine I6z (fun c6 H=>?_) fun c6 H=>?_
 revert H;refine B5z fun y9 h10 H=>?_
 rcases y9 with y9 | pv7 <;> dsimp only at H
 refine Tc (aV _ _ h10).s ?_
 refine Z3 ?_
 refine aF [] (by decide) ?_
 exact Tm (()) (ij H)
 refine Tp (aV _ _ h10).pan ?_
 revert H;refine B2z fun r10 H e10=>?_
 cases e10;cases Hr5
 revert H;refine B3z fun r11 H e11=>?_
 cases e11;cases Hr4
 cases H
 exact aR
 revert H;refine B5z fun y10 h11 H=>?_
 rcases y10 with y10 | pv8 <;> dsimp only at H
 refine Tc (aV _ _ h11).s ?_
 refine Z3 ?_
 refine aF [] (by decide) ?_
 exact Tm (()) (ij H)
 refine Tp (aV _ _ h11).pan ?_
 revert H;refine B2z fun r12 H e12=>?_
 cases e12;cases Hr5
 revert H;refine B3z fun r13 H e13=>?_
 cases e13;cases Hr4
 cases H
 exact aR
 rintro i hi;subst o5;replace H:=Hr5;clear Hr5;try dsimp only at H ⊢
 revert H;refine B1z fun z2 h12 H=>?_
 refine Z3 ?_
 exact Tm ((k2,z2)) ⟨H,ls⟩
 refine Z6 ?_
 exact Tm (()) (ij H)
 rintro i hi;subst o4;replace H:=Hr4;clear Hr4;try dsimp only at H ⊢
 refine Z1 ?_
 refine Tn (uM (fun y=>aH y) aZ rfl) fun b4=>?_
 revert H;refine B2z fun o6 H Hr6=>?_
 refine aQ (fun i=>o6=Sum.inl i) (fun i=>[(1,aU aB a0),(7,fEq (.map (some b4)))]) (fun i=>[bE aZ (fun y=>aH y) b4 i]) ?_ ?_
 refine Z7 ?_
 refine Th (ι:=Int × aE Int Bool) (fun i=>pW AA a0 i.1 i.2.1 i.2.2=_) (fun i=>[(1,aU aB a0),(2,dG 186 [aU aB a0]),(7,fEq (.map (some b4))),(72,fSl bB (a0.AO)),(73,fI ((a0.AO).length:Int)),(74,fI i.2.1)]) (fun i=>[bE aZ (fun y=>aH y) b4 i.2.2]) (AA,0,(aE.none:aE Int Bool)) H (fun _ h=>nomatch h) ?_
 clear H;rintro k3 ⟨x8,x9⟩ H;dsimp only at H ⊢;rw [pW]at H
 refine Z3 ?_
 refine aL ?_
 revert H;refine is (fun c7 H=>?_) fun c7 H=>?_
 revert H;refine B3z fun o7 H Hr7=>?_
 refine aQ (fun i=>o7=Sum.inl i) (fun i=>[(1,aU aB a0),(2,dG 186 [aU aB a0]),(7,fEq (.map (some b4))),(72,fSl bB (a0.AO)),(73,fI ((a0.AO).length:Int)),(74,fI x8)]) (fun i=>[bE aZ (fun y=>aH y) b4 i]) ?_ ?_
 revert H;refine B2z fun y11 h13 H=>?_
 refine Z2 ?_
 refine Tn (cF rfl mF rfl) fun b5=>?_
 refine cM (φs':=[fI y11.At,fSl tI y11.AZ,fI y11.AU]) a1W rfl rfl (has rfl) (has rfl) (aI (aG a1W) (aI (bR) (aI (aG a1W) bM))) (sz rfl) rfl rfl rfl ?_
 revert H;refine B5z fun y12 h14 H=>?_
 rcases y12 with y12 | pv9 <;> dsimp only at H
 refine iI a1W rfl rfl rfl (has rfl) (aS.cons (has rfl) aS.nil) rfl (cb rfl) (aBx y11.At a0 (Sum.inl y12) h14).s rfl ?_
 revert H;refine B1z fun o8 H Hr8=>?_
 refine aQ (ι:=Unit) (fun i=>o8=Sum.inl ()) (fun i=>[(1,aU aB a0),(2,dG 186 [aU aB a0]),(7,fEq (.map (some b4))),(72,fSl bB (a0.AO)),(73,fI ((a0.AO).length:Int)),(74,fI x8),(9,fEq (ptr b5))]) (fun i=>[aA b5 114 [fI y11.At,fSl tI y11.AZ,fI y11.AU],bE aZ (fun y=>aH y) b4 x9]) ?_ ?_
 revert H;refine I6z (fun c8 H=>?_) fun c8 H=>?_
 revert H;refine B5z fun y13 h15 H=>?_
 rcases y13 with y13 | pv10 <;> dsimp only at H
 refine Tc (aV _ _ h15).s ?_
 refine Z1 ?_
 exact Tm (()) (ij H)
 refine Tp (aV _ _ h15).pan ?_
 revert H;refine B1z fun r14 H e14=>?_
 cases e14;cases Hr8
 revert H;refine B2z fun r15 H e15=>?_
 cases e15;cases Hr7
 revert H;refine B3z fun r16 H e16=>?_
 cases e16;cases Hr6
 cases H
 exact aR
 revert H;refine B5z fun y14 h16 H=>?_
 rcases y14 with y14 | pv11 <;> dsimp only at H
 refine Tc (aV _ _ h16).s ?_
 refine Z1 ?_
 exact Tm (()) (ij H)
 refine Tp (aV _ _ h16).pan ?_
 revert H;refine B1z fun r17 H e17=>?_
 cases e17;cases Hr8
 revert H;refine B2z fun r18 H e18=>?_
 cases e18;cases Hr7
 revert H;refine B3z fun r19 H e19=>?_
 cases e19;cases Hr6
 cases H
 exact aR
 rintro i hi;subst o8;replace H:=Hr8;clear Hr8;try dsimp only at H ⊢
 refine Z7 ?_
 refine Th (ι:=Int × aE Int Bool) (fun i=>nG AA a0 y11 i.1 i.2.1 i.2.2=_) (fun i=>[(1,aU aB a0),(2,dG 186 [aU aB a0]),(7,fEq (.map (some b4))),(72,fSl bB (a0.AO)),(73,fI ((a0.AO).length:Int)),(74,fI x8),(9,fEq (ptr b5)),(94,fSl tI y11.AZ),(95,fI (y11.AZ.length:Int)),(96,fI i.2.1)]) (fun i=>[aA b5 114 [fI y11.At,fSl tI y11.AZ,fI y11.AU],bE aZ (fun y=>aH y) b4 i.2.2]) (AA,0,x9) H (fun _ h=>nomatch h) ?_
 clear H;rintro k4 ⟨x13,x14⟩ H;dsimp only at H ⊢;rw [nG]at H
 refine Z3 ?_
 refine aL ?_
 revert H;refine is (fun c9 H=>?_) fun c9 H=>?_
 refine Z3 ?_
 refine aL ?_
 revert H;refine B3z fun y15 h17 H=>?_
 revert H;refine B5z fun o9 H Hr9=>?_
 refine aQ (ι:=Unit) (fun i=>o9=Sum.inl ()) (fun i=>[(1,aU aB a0),(2,dG 186 [aU aB a0]),(7,fEq (.map (some b4))),(72,fSl bB (a0.AO)),(73,fI ((a0.AO).length:Int)),(74,fI x8),(9,fEq (ptr b5)),(94,fSl tI y11.AZ),(95,fI (y11.AZ.length:Int)),(96,fI x13),(11,fI y15)]) (fun i=>[aA b5 114 [fI y11.At,fSl tI y11.AZ,fI y11.AU],bE aZ (fun y=>aH y) b4 x14]) ?_ ?_
 revert H;refine is (fun c10 H=>?_) fun c10 H=>?_
 revert H;refine is (fun c11 H=>?_) fun c11 H=>?_
 revert H;refine bs fun y16 h18 H=>?_
 revert H;refine is (fun c12 H=>?_) fun c12 H=>?_
 revert H;refine bs fun y17 h19 H=>?_
 revert H;refine bs fun y18 h20 H=>?_
 apply bG (ods:=[_,_,_,_,_,_,_,_,_,_,_,_,_,_,_,_,_,_,_,_,_,_,_,_,_,_,_,_,_]) 29 0 2 bF rfl rfl rfl
 refine ND ?_
 refine M8 ?_
 intros
 refine M8 ?_
 intros
 refine M8 ?_
 intros
 refine Mg c12 (aEr (t:=tI) rfl hh aGj (aEz hh) (el rfl) h19) fun _=>?_
 refine M1 ?_
 intros
 refine Nc (aFD _ _ _ _ h20) fun _=>?_
 refine M2 ?_
 intros
 revert H;refine B1z fun y19 h21 H=>?_
 rcases y19 with y19 | pv12 <;> dsimp only at H
 refine Tc (aV _ _ h21).s ?_
 refine Z1 ?_
 exact Tm (()) (ij H)
 refine Tp (aV _ _ h21).pan ?_
 revert H;refine B1z fun r20 H e20=>?_
 cases e20;cases Hr9
 revert H;refine B6z fun r21 H e21=>?_
 cases e21;cases Hr7
 revert H;refine B3z fun r22 H e22=>?_
 cases e22;cases Hr6
 cases H
 exact aR
 exact fk
 kernel_rfl
 apply bG (ods:=[_,_,_,_,_,_,_,_,_,_,_,_,_,_,_,_,_,_,_,_,_,_,_,_,_,_,_,_,_]) 29 0 2 bF rfl rfl rfl
 refine ND ?_
 refine M8 ?_
 intros
 refine M8 ?_
 intros
 refine M8 ?_
 intros
 refine M5 ?_
 intros
 revert H;refine B1z fun y20 h22 H=>?_
 rcases y20 with y20 | pv13 <;> dsimp only at H
 refine Tc (aV _ _ h22).s ?_
 refine Z1 ?_
 exact Tm (()) (ij H)
 refine Tp (aV _ _ h22).pan ?_
 revert H;refine B1z fun r23 H e23=>?_
 cases e23;cases Hr9
 revert H;refine B6z fun r24 H e24=>?_
 cases e24;cases Hr7
 revert H;refine B3z fun r25 H e25=>?_
 cases e25;cases Hr6
 cases H
 exact aR
 exact fk
 kernel_rfl
 apply bG (ods:=[_,_,_,_,_,_,_,_,_,_,_,_,_,_,_,_,_,_,_,_,_,_,_,_,_,_,_,_,_]) 29 0 2 bF rfl rfl rfl
 refine ND ?_
 refine M8 ?_
 intros
 refine M8 ?_
 intros
 refine M8 ?_
 intros
 refine M5 ?_
 intros
 revert H;refine B1z fun y21 h23 H=>?_
 rcases y21 with y21 | pv14 <;> dsimp only at H
 refine Tc (aV _ _ h23).s ?_
 refine Z1 ?_
 exact Tm (()) (ij H)
 refine Tp (aV _ _ h23).pan ?_
 revert H;refine B1z fun r26 H e26=>?_
 cases e26;cases Hr9
 revert H;refine B6z fun r27 H e27=>?_
 cases e27;cases Hr7
 revert H;refine B3z fun r28 H e28=>?_
 cases e28;cases Hr6
 cases H
 exact aR
 exact fk
 kernel_rfl
 apply bG (ods:=[_,_,_,_,_,_,_,_,_,_,_,_,_,_,_,_,_,_,_,_,_,_,_,_,_,_,_,_,_]) 29 0 2 bF rfl rfl rfl
 refine ND ?_
 refine M8 ?_
 intros
 refine M8 ?_
 intros
 refine M8 ?_
 intros
 refine M5 ?_
 intros
 revert H;refine B1z fun y22 h24 H=>?_
 rcases y22 with y22 | pv15 <;> dsimp only at H
 refine Tc (aV _ _ h24).s ?_
 refine Z1 ?_
 exact Tm (()) (ij H)
 refine Tp (aV _ _ h24).pan ?_
 revert H;refine B1z fun r29 H e29=>?_
 cases e29;cases Hr9
 revert H;refine B6z fun r30 H e30=>?_
 cases e30;cases Hr7
 revert H;refine B3z fun r31 H e31=>?_
 cases e31;cases Hr6
 cases H
 exact aR
 exact fk
 kernel_rfl
 rintro i hi;subst o9;replace H:=Hr9;clear Hr9;try dsimp only at H ⊢
 refine Z3 ?_
 refine aW ?_
 refine iM (k:=y15) (y:=true) a1W (.inl rfl) rfl (has rfl) (has rfl) rfl (has rfl) rfl qW ?_
 revert H;refine B4z fun z3 h25 H=>?_
 refine Z3 ?_
 refine aF [1,0] (by decide) ?_
 exact Tm ((k4,z3,aE.upd x14 y15 true)) ⟨H,ls⟩
 refine Z7 ?_
 refine aF [1] (by decide) ?_
 exact Tm (x14) (ij H)
 refine lJ a1W rfl (has rfl) (aS.cons (has rfl) aS.nil) rfl (cb rfl) (aBx y11.At a0 (Sum.inr pv9) h14).pan rfl ?_
 revert H;refine B3z fun r32 H e32=>?_
 cases e32;cases Hr7
 revert H;refine B3z fun r33 H e33=>?_
 cases e33;cases Hr6
 cases H
 exact aR
 rintro x10 hi;subst o7;replace H:=Hr7;clear Hr7;try dsimp only at H ⊢
 revert H;refine B1z fun z4 h26 H=>?_
 refine Z3 ?_
 exact Tm ((k3,z4,x10)) ⟨H,ls⟩
 refine Z6 ?_
 exact Tm (x9) (ij H)
 rintro x5 hi;subst o6;replace H:=Hr6;clear Hr6;try dsimp only at H ⊢
 refine Z2 ?_
 refine Yo 0 rfl (aBm rfl hh qW) ?_
 refine B4 H fun y23 h27 H=>?_
 rcases y23 with y23 | pv16 <;> dsimp only at H
 refine Tc (aV _ _ h27).s ?_
 refine Z1 ?_
 cases H
 refine fS ?_
 refine aF [] (by decide) ?_
 exact cK (.inr rfl) rfl rfl
 refine Tp (aV _ _ h27).pan ?_
 cases H
 exact aR
def vC (a0:AN):Option (Int):=
 (chk ((a0.AQ.length:Int)+(a0.AP.length:Int))).bind fun z1=>
 some z1
theorem aJ3  (a0:AN) (r:Int) (H:vC a0=some r):FnS Tryz.prog 177 [fSt aB a0] [] (fI r) (fun _=>[]):=by
 unfold vC at H
 refine bS Tryz.func177 rfl Tryz.ntmps177 rfl (fun β=>?_)
 refine Z1 ?_
 refine Tn (cA rfl hh bT) fun b1=>?_
 refine B9 H fun z1 h1 H=>?_
 refine Z4 ?_
 cases H
 refine aF [] (by decide) ?_
 exact To
def sA (a0:AN) (a1:Al):Nat->Int->Int->Option (Int)
| 0,_,_=>none
| k+1,x4,x5=>
 if x5<(a1.AZ.length:Int)then
  (idx a1.AZ x5).bind fun y1=>
  (idx a0.AQ y1).bind fun y2=>
  (chk (x4+y2.Au)).bind fun z1=>
  (chk (x5+1)).bind fun z2=>
  sA a0 a1 k z1 z2
 else
  some x4
def yE (AA:Nat) (a0:AN) (a1:Al):Option (Int):=
 (sA a0 a1 AA 0 0).bind fun x1=>
 some x1
theorem aI2 (AA:Nat)  (a0:AN) (a1:Al) (r:Int) (H:yE AA a0 a1=some r):FnS Tryz.prog 178 [fSt aB a0,fSt bB a1] [] (fI r) (fun _=>[]):=by
 unfold yE at H
 refine bS Tryz.func178 rfl Tryz.ntmps178 rfl (fun β=>?_)
 refine Z1 ?_
 refine Tn (cA rfl hh bT) fun b1=>?_
 refine Tn (cA rfl hh bT) fun b2=>?_
 revert H;refine B5z fun o1 H Hr1=>?_
 refine aQ (fun i=>o1=i) (fun i=>[(5,fI i)]) (fun i=>[aA b2 114 [fI a1.At,fSl tI a1.AZ,fI a1.AU],aA b1 63 [fSl bC a0.AQ,fSl bD a0.AP,fSl bB a0.AO]]) ?_ ?_
 refine Z7 ?_
 refine Th (ι:=Int × Int) (fun i=>sA a0 a1 i.1 i.2.1 i.2.2=_) (fun i=>[(2,fEq (ptr b1)),(5,fI i.2.1),(9,fSl tI a1.AZ),(10,fI (a1.AZ.length:Int)),(11,fI i.2.2)]) (fun i=>[aA b2 114 [fI a1.At,fSl tI a1.AZ,fI a1.AU],aA b1 63 [fSl bC a0.AQ,fSl bD a0.AP,fSl bB a0.AO]]) (AA,0,0) H (fun _ h=>nomatch h) ?_
 clear H;rintro k1 ⟨x4,x5⟩ H;dsimp only at H ⊢;rw [sA]at H
 refine Z3 ?_
 refine aL ?_
 revert H;refine is (fun c1 H=>?_) fun c1 H=>?_
 refine Z3 ?_
 refine aL ?_
 revert H;refine B2z fun y1 h1 H=>?_
 revert H;refine B9z fun y2 h2 H=>?_
 revert H;refine B3z fun z1 h3 H=>?_
 revert H;refine B6z fun z2 h4 H=>?_
 refine Z3 ?_
 exact Tm ((k1,z1,z2)) ⟨H,ls⟩
 refine Z6 ?_
 exact Tm (x4) (ij H)
 rintro x1 hi;subst o1;replace H:=Hr1;clear Hr1;try dsimp only at H ⊢
 refine Z5 ?_
 cases H
 refine aF [] (by decide) ?_
 exact To
open Go.SX Go.SW Go.Dt
def aCx (a0:Scope_speaks):Option (Int):=
 some 0
theorem aJ8  (a0:Scope_speaks) (r:Int) (H:aCx a0=some r):FnS Tryz.prog 206 [fSt aJG a0] [] (fI r) (fun _=>[]):=by
 unfold aCx at H
 refine bS Tryz.func206 rfl Tryz.ntmps206 rfl (fun β=>?_)
 refine Z1 ?_
 refine Tn (cA rfl hh bT) fun b1=>?_
 refine Z6 ?_
 cases H
 refine aF [] (by decide) ?_
 exact To
def aCq (a0:Scope_travels):Option (Int):=
 some 1
theorem aKm  (a0:Scope_travels) (r:Int) (H:aCq a0=some r):FnS Tryz.prog 207 [fSt aKH a0] [] (fI r) (fun _=>[]):=by
 unfold aCq at H
 refine bS Tryz.func207 rfl Tryz.ntmps207 rfl (fun β=>?_)
 refine Z1 ?_
 refine Tn (cA rfl hh bT) fun b1=>?_
 refine Z6 ?_
 cases H
 refine aF [] (by decide) ?_
 exact To
def aDu (a0:Scope_declares):Option (Int):=
 some 1
theorem aI1  (a0:Scope_declares) (r:Int) (H:aDu a0=some r):FnS Tryz.prog 208 [fSt aJ4 a0] [] (fI r) (fun _=>[]):=by
 unfold aDu at H
 refine bS Tryz.func208 rfl Tryz.ntmps208 rfl (fun β=>?_)
 refine Z1 ?_
 refine Tn (cA rfl hh bT) fun b1=>?_
 refine Z6 ?_
 cases H
 refine aF [] (by decide) ?_
 exact To
def aBX (a0:Scope_decides):Option (Int):=
 some 2
theorem aIs  (a0:Scope_decides) (r:Int) (H:aBX a0=some r):FnS Tryz.prog 209 [fSt aIH a0] [] (fI r) (fun _=>[]):=by
 unfold aBX at H
 refine bS Tryz.func209 rfl Tryz.ntmps209 rfl (fun β=>?_)
 refine Z1 ?_
 refine Tn (cA rfl hh bT) fun b1=>?_
 refine Z6 ?_
 cases H
 refine aF [] (by decide) ?_
 exact To
def aCm (a0:Int):Option (Int):=
 some a0
theorem aIG  (a0:Int) (r:Int) (H:aCm a0=some r):FnS Tryz.prog 210 [fI a0] [] (fI r) (fun _=>[]):=by
 unfold aCm at H
 refine bS Tryz.func210 rfl Tryz.ntmps210 rfl (fun β=>?_)
 refine Z8 ?_
 cases H
 exact To
def lS:Value->Option Int
 | .iface 259 (.agg ⟨[]⟩)=>aCx ⟨⟩
 | .iface 260 (.agg ⟨[]⟩)=>aCq ⟨⟩
 | .iface 261 (.agg ⟨[]⟩)=>aDu ⟨⟩
 | .iface 262 (.agg ⟨[]⟩)=>aBX ⟨⟩
 | .iface 271 (.int .i64 n)=>aCm n
 | _=>none
theorem aIo (v:Value) (r:Int) (H:lS v=some r):Inv Tryz.prog v "cabotage/scope.kids" [] (fI r):=by
 unfold lS at H
 split at H
 exact⟨_,_,206,rfl,fun w=>by kernel_rfl,(cb rfl),(aJ8 ⟨⟩ r H).args (aJ.cons (mR []) aJ.nil)⟩
 exact⟨_,_,207,rfl,fun w=>by kernel_rfl,(cb rfl),(aKm ⟨⟩ r H).args (aJ.cons (mR []) aJ.nil)⟩
 exact⟨_,_,208,rfl,fun w=>by kernel_rfl,(cb rfl),(aI1 ⟨⟩ r H).args (aJ.cons (mR []) aJ.nil)⟩
 exact⟨_,_,209,rfl,fun w=>by kernel_rfl,(cb rfl),(aIs ⟨⟩ r H).args (aJ.cons (mR []) aJ.nil)⟩
 rename_i n;exact⟨_,_,210,rfl,fun w=>by kernel_rfl,(cb rfl),(aIG n r H).args aJ.rfl⟩
 cases H
def oU (AA:Nat) (a2:Int) (y7:Af):Nat->Int->Option ((Unit) ⊕ (Ap ⊕ Value))
| 0,_=>none
| k+1,x8=>
 if x8<(y7.Ag.length:Int)then
  (idx y7.Ag x8).bind fun y27=>
  (yI AA (⟨y27.Op,y27.N,y27.AW⟩:Ah) a2).bind fun y28=>
  match y28 with
  | Sum.inr pv16=>(some (Sum.inr pv16)).bind fun r=>some (Sum.inr r)
  | Sum.inl y28=>
  (chk (x8+1)).bind fun z1=>
  oU AA a2 y7 k z1
 else
  some (Sum.inl ())
def oX (AA:Nat) (rec_scope_looker_node:Ap->Int->Int->Option (Ap ⊕ Value)) (y30:AN) (z2:Int):Nat->Int->(List ByteArray)->(List Af)->(List AN)->Int->(List Int)->(List Bool)->(List Bool)->Option ((List ByteArray × List Af × List AN × Int × List Int × List Bool × List Bool) ⊕ ((Int × List ByteArray × List Af × List AN × Int × List Int × List Bool × List Bool) ⊕ (Ap ⊕ Value)))
| 0,_,_,_,_,_,_,_,_=>none
| k+1,x32,x33,x34,x35,x36,x37,x38,x39=>
 if x32<(y30.AO.length:Int)then
  (idx y30.AO x32).bind fun y33=>
  (yE AA (⟨y30.AQ,y30.AP,y30.AO⟩:AN) (⟨y33.At,y33.AZ,y33.AU⟩:Al)).bind fun y34=>
  (chk (z2+y34)).bind fun z3=>
  (rec_scope_looker_node (⟨(⟨x33,x34,x35,x36⟩:AL),x37,x38,x39⟩:Ap) y33.AU z3).bind fun y35=>
  match y35 with
  | Sum.inr pv18=>((some (Sum.inr pv18)).bind fun r=>some (Sum.inr r)).bind fun r=>some (Sum.inr r)
  | Sum.inl y35=>
  (chk (x32+1)).bind fun z4=>
  oX AA rec_scope_looker_node y30 z2 k z4 y35.p.AF y35.p.AH y35.p.AE y35.p.AG y35.AS y35.AT y35.Aa
 else
  some (Sum.inl (x33,x34,x35,x36,x37,x38,x39))
def oZ (rec_scope_looker_node:Ap->Int->Int->Option (Ap ⊕ Value)) (y30:AN) (z2:Int):Nat->Int->(List ByteArray)->(List Af)->(List AN)->Int->(List Int)->(List Bool)->(List Bool)->Option ((Int × List ByteArray × List Af × List AN × Int × List Int × List Bool × List Bool) ⊕ (Ap ⊕ Value))
| 0,_,_,_,_,_,_,_,_=>none
| k+1,x48,x49,x50,x51,x52,x53,x54,x55=>
 if x48<(y30.AP.length:Int)then
  (idx y30.AP x48).bind fun y36=>
  (rec_scope_looker_node (⟨(⟨x49,x50,x51,x52⟩:AL),x53,x54,x55⟩:Ap) y36.AU z2).bind fun y37=>
  match y37 with
  | Sum.inr pv19=>(some (Sum.inr pv19)).bind fun r=>some (Sum.inr r)
  | Sum.inl y37=>
  (chk (x48+1)).bind fun z5=>
  oZ rec_scope_looker_node y30 z2 k z5 y37.p.AF y37.p.AH y37.p.AE y37.p.AG y37.AS y37.AT y37.Aa
 else
  some (Sum.inl (z2,x49,x50,x51,x52,x53,x54,x55))
def pU (rec_scope_looker_node:Ap->Int->Int->Option (Ap ⊕ Value)) (y7:Af) (x9:Int):Nat->Int->(List ByteArray)->(List Af)->(List AN)->Int->(List Int)->(List Bool)->(List Bool)->Option (Ap ⊕ Value)
| 0,_,_,_,_,_,_,_,_=>none
| k+1,x64,x65,x66,x67,x68,x69,x70,x71=>
 if x64<(y7.AW.length:Int)then
  (idx y7.AW x64).bind fun y38=>
  (rec_scope_looker_node (⟨(⟨x65,x66,x67,x68⟩:AL),x69,x70,x71⟩:Ap) y38 x9).bind fun y39=>
  match y39 with
  | Sum.inr pv20=>some (Sum.inr pv20)
  | Sum.inl y39=>
  (chk (x64+1)).bind fun z6=>
  pU rec_scope_looker_node y7 x9 k z6 y39.p.AF y39.p.AH y39.p.AE y39.p.AG y39.AS y39.AT y39.Aa
 else
  some (Sum.inl (⟨(⟨x65,x66,x67,x68⟩:AL),x69,x70,x71⟩:Ap))
def fT:Nat->Ap->Int->Int->Option (Ap ⊕ Value)
| 0,_,_,_=>none
| AA+1,a0,a1,a2=>
 (if 0<=a1 then
  if a1<(a0.p.AH.length:Int)then
   (idx a0.AT a1).bind fun y1=>
   (bQ (!y1)).bind fun y2=>
   match y2 with
   | Sum.inr pv1=>(some (Sum.inr pv1)).bind fun r=>some (Sum.inr r)
   | Sum.inl y2=>
   some (Sum.inl ())
  else
   (bQ false).bind fun y3=>
   match y3 with
   | Sum.inr pv2=>(some (Sum.inr pv2)).bind fun r=>some (Sum.inr r)
   | Sum.inl y3=>
   some (Sum.inl ())
 else
  (bQ false).bind fun y4=>
  match y4 with
  | Sum.inr pv3=>(some (Sum.inr pv3)).bind fun r=>some (Sum.inr r)
  | Sum.inl y4=>
  some (Sum.inl ())).bind fun o=>match o with
 | Sum.inr r=>some r
 | Sum.inl _=>
 (idx a0.AT a1).bind fun y5=>
 (idx a0.AS a1).bind fun y6=>
 (idx a0.p.AH a1).bind fun y7=>
 (kA y7.Op).bind fun y8=>
 ((gU y8).bind fun x1=>
 bif !x1 then
  (lS y8).bind fun y9=>
  (bQ (decide ((y7.AW.length:Int)=y9))).bind fun y10=>
  match y10 with
  | Sum.inr pv4=>(some (Sum.inr pv4)).bind fun r=>some (Sum.inr r)
  | Sum.inl y10=>
  some (Sum.inl ())
 else
  (bQ false).bind fun y11=>
  match y11 with
  | Sum.inr pv5=>(some (Sum.inr pv5)).bind fun r=>some (Sum.inr r)
  | Sum.inl y11=>
  some (Sum.inl ())).bind fun o=>match o with
 | Sum.inr r=>some r
 | Sum.inl _=>
 ((eR 259 (.agg #[]) y8).bind fun y12=>
 match y12 with
 | (u1,x3)=>
 bif x3 then
  if 0<=y7.N then
   (bQ (decide (y7.N<a2))).bind fun y13=>
   match y13 with
   | Sum.inr pv6=>(some (Sum.inr pv6)).bind fun r=>some (Sum.inr r)
   | Sum.inl y13=>
   some (Sum.inl (min (y7.Ag.length:Int) 3))
  else
   (bQ false).bind fun y14=>
   match y14 with
   | Sum.inr pv7=>(some (Sum.inr pv7)).bind fun r=>some (Sum.inr r)
   | Sum.inl y14=>
   some (Sum.inl (min (y7.Ag.length:Int) 3))
 else
  (eR 260 (.agg #[]) y8).bind fun y15=>
  match y15 with
  | (u2,x4)=>
  bif x4 then
   if 0<=y7.N then
    (bQ (decide (y7.N<a2))).bind fun y16=>
    match y16 with
    | Sum.inr pv8=>(some (Sum.inr pv8)).bind fun r=>some (Sum.inr r)
    | Sum.inl y16=>
    some (Sum.inl 0)
   else
    (bQ false).bind fun y17=>
    match y17 with
    | Sum.inr pv9=>(some (Sum.inr pv9)).bind fun r=>some (Sum.inr r)
    | Sum.inl y17=>
    some (Sum.inl 0)
  else
   (eR 261 (.agg #[]) y8).bind fun y18=>
   match y18 with
   | (u3,x5)=>
   bif x5 then
    if 0<=y7.N then
     if y7.N<(a0.p.AE.length:Int)then
      (idx a0.Aa y7.N).bind fun y19=>
      (bQ (!y19)).bind fun y20=>
      match y20 with
      | Sum.inr pv10=>(some (Sum.inr pv10)).bind fun r=>some (Sum.inr r)
      | Sum.inl y20=>
      some (Sum.inl 0)
     else
      (bQ false).bind fun y21=>
      match y21 with
      | Sum.inr pv11=>(some (Sum.inr pv11)).bind fun r=>some (Sum.inr r)
      | Sum.inl y21=>
      some (Sum.inl 0)
    else
     (bQ false).bind fun y22=>
     match y22 with
     | Sum.inr pv12=>(some (Sum.inr pv12)).bind fun r=>some (Sum.inr r)
     | Sum.inl y22=>
     some (Sum.inl 0)
   else
    (eR 262 (.agg #[]) y8).bind fun y23=>
    match y23 with
    | (u4,x6)=>
    bif x6 then
     (bQ (decide (y7.N=0))).bind fun y24=>
     match y24 with
     | Sum.inr pv13=>(some (Sum.inr pv13)).bind fun r=>some (Sum.inr r)
     | Sum.inl y24=>
     some (Sum.inl 1)
    else
     (bQ (decide (y7.N=0))).bind fun y25=>
     match y25 with
     | Sum.inr pv14=>(some (Sum.inr pv14)).bind fun r=>some (Sum.inr r)
     | Sum.inl y25=>
     some (Sum.inl 0)).bind fun o=>match o with
 | Sum.inr r=>some r
 | Sum.inl x2=>
 (bQ (decide ((y7.Ag.length:Int)=x2))).bind fun y26=>
 match y26 with
 | Sum.inr pv15=>some (Sum.inr pv15)
 | Sum.inl y26=>
 (oU AA a2 y7 AA 0).bind fun o=>match o with
 | Sum.inr r=>some r
 | Sum.inl _=>
 (if y7.Op=4 then
  (idx a0.Aa y7.N).bind fun y29=>
  (idx a0.p.AE y7.N).bind fun y30=>
  (tY AA (⟨y30.AQ,y30.AP,y30.AO⟩:AN)).bind fun y31=>
  match y31 with
  | Sum.inr pv17=>(some (Sum.inr pv17)).bind fun r=>some (Sum.inr r)
  | Sum.inl y31=>
  (vC (⟨y30.AQ,y30.AP,y30.AO⟩:AN)).bind fun y32=>
  (chk (a2+y32)).bind fun z2=>
  (oX AA (fT AA) y30 z2 AA 0 a0.p.AF a0.p.AH a0.p.AE a0.p.AG (a0.AS.set a1.toNat a2) (a0.AT.set a1.toNat true) (a0.Aa.set y7.N.toNat true)).bind fun o=>match o with
  | Sum.inr r=>some r
  | Sum.inl (x17,x18,x19,x20,x21,x22,x23)=>
  oZ (fT AA) y30 z2 AA 0 x17 x18 x19 x20 x21 x22 x23
 else
  some (Sum.inl (a2,a0.p.AF,a0.p.AH,a0.p.AE,a0.p.AG,a0.AS.set a1.toNat a2,a0.AT.set a1.toNat true,a0.Aa))).bind fun o=>match o with
 | Sum.inr r=>some r
 | Sum.inl (x9,x10,x11,x12,x13,x14,x15,x16)=>
 pU (fT AA) y7 x9 AA 0 x10 x11 x12 x13 x14 x15 x16
theorem aEg:∀ (AA:Nat),(∀ (p0:Nat) (a0:Ap) (a1:Int) (a2:Int) (r:Ap ⊕ Value) (H:fT AA a0 a1 a2=some r),FnE Tryz.prog 161 [fEq (.pointer (some ⟨p0,0,none⟩)),fI a1,fI a2] [zV p0 a0] r (fun r=>dA []) (fun r=>[zV p0 r])):=by
 intro AA
 induction AA with
 | zero=>exact fun p0 a0 a1 a2 r H=>(by rw [fT]at H;cases H)
 | succ AA ih=>
 have ih_scope_looker_node:=@ih
 refine ?_
 intro p0 a0 a1 a2 r H
 rw [fT]at H
 refine gO Tryz.func161 rfl Tryz.ntmps161 rfl (fun β=>?_)
 refine wI (fun v1 v2 v3=>?_)
 refine rc 1 fun _=>?_
 refine rc 2 fun _=>?_
 refine rc 3 fun _=>?_
 revert H;refine bs fun o1 H Hr1=>?_
 refine aQ (ι:=Unit) (fun i=>o1=Sum.inl ()) (fun i=>[(0,fEq (ptr p0)),(1,fI a1),(2,fI a2)]) (fun i=>[aA p0 174 [fSl aK a0.p.AF,fSl aN a0.p.AH,fSl aB a0.p.AE,fI a0.p.AG,fEq v1,fEq v2,fEq v3],aD v1 3 tI a0.AS,aD v2 4 bW a0.AT,aD v3 4 bW a0.Aa]) ?_ ?_
 revert H;refine I4z (fun c1 H=>?_) fun c1 H=>?_
 revert H;refine I10z (fun c2 H=>?_) fun c2 H=>?_
 revert H;refine B5z fun y1 h1 H=>?_
 refine Yh 2 rfl c2 (lT rfl hh hh (el rfl) h1) ?_
 refine Yh 2 rfl c2 (jE rfl rfl hh (sc rfl) (idx_get h1) rfl) ?_
 revert H;refine B2z fun y2 h2 H=>?_
 rcases y2 with y2 | pv1 <;> dsimp only at H
 refine Tc (aV _ _ h2).s ?_
 refine Z1 ?_
 exact Tm (()) (ij H)
 refine Tp (aV _ _ h2).pan ?_
 revert H;refine B1z fun r1 H e1=>?_
 cases e1;cases Hr1
 cases H
 exact aR
 revert H;refine B9z fun y3 h3 H=>?_
 rcases y3 with y3 | pv2 <;> dsimp only at H
 refine Tc (aV _ _ h3).s ?_
 refine Z1 ?_
 exact Tm (()) (ij H)
 refine Tp (aV _ _ h3).pan ?_
 revert H;refine B1z fun r2 H e2=>?_
 cases e2;cases Hr1
 cases H
 exact aR
 refine Z12 ?_
 revert H;refine B7z fun y4 h4 H=>?_
 rcases y4 with y4 | pv3 <;> dsimp only at H
 refine Tc (aV _ _ h4).s ?_
 refine Z1 ?_
 exact Tm (()) (ij H)
 refine Tp (aV _ _ h4).pan ?_
 revert H;refine B1z fun r3 H e3=>?_
 cases e3;cases Hr1
 cases H
 exact aR
 rintro i hi;subst o1;replace H:=Hr1;clear Hr1;try dsimp only at H ⊢
 refine aL ?_
 refine bz H fun y5 h5 H=>?_
 refine bz H fun y6 h6 H=>?_
 apply bG (ods:=[_,_,_,_,_,_,_,_,_,_,_,_,_,_,_]) 15 0 4 bF rfl rfl rfl
 refine ND ?_
 refine M8 ?_
 intros
 refine M4 ?_
 intros
 refine tQ (od:=odC [2] true (eG) [aD v2 4 bW (a0.AT.set a1.toNat true)]) (p:=2) (z':=true) rfl (fun _=>rfl) (fun _=>rfl) a1W rfl rfl rfl rfl (has rfl) (has rfl) (aG a1W) (sz rfl) (idx_get h5) rfl rfl (fun _=>?_)
 refine M1 ?_
 intros
 refine tQ (od:=odC [1] true (eG) [aD v1 3 tI (a0.AS.set a1.toNat a2)]) (p:=1) (z':=a2) rfl (fun _=>rfl) (fun _=>rfl) a1W rfl rfl rfl rfl (has rfl) (has rfl) (aG a1W) (sz rfl) (idx_get h6) rfl rfl (fun _=>?_)
 refine B9 H fun y7 h7 H=>?_
 refine Z2 ?_
 refine Tn (cF rfl xE rfl) fun b1=>?_
 refine cM (φs':=[fI y7.Op,fI y7.N,fSl cZ y7.Ag,fSl tI y7.AW]) a1W rfl rfl (has rfl) (has rfl) (aI (aG a1W) (aI (aG a1W) (aI (bR) (aI (bR) bM)))) (sz rfl) rfl rfl rfl ?_
 refine B4 H fun y8 h8 H=>?_
 refine Tc (aKD _ _ h8) ?_
 revert H;refine B2z fun o2 H Hr2=>?_
 refine aQ (ι:=Unit) (fun i=>o2=Sum.inl ()) (fun i=>[(0,fEq (ptr p0)),(2,fI a2),(6,fEq (ptr b1)),(7,lK y8)]) (fun i=>[aA b1 140 [fI y7.Op,fI y7.N,fSl cZ y7.Ag,fSl tI y7.AW],aA p0 174 [fSl aK a0.p.AF,fSl aN a0.p.AH,fSl aB a0.p.AE,fI a0.p.AG,fEq v1,fEq v2,fEq v3],aD v1 3 tI (a0.AS.set a1.toNat a2),aD v2 4 bW (a0.AT.set a1.toNat true),aD v3 4 bW a0.Aa]) ?_ ?_
 revert H;refine bs fun x1 h9 H=>?_
 revert H;refine cs (fun c3 H=>?_) fun c3 H=>?_
 revert H;refine bs fun y9 h10 H=>?_
 apply bG (ods:=[_,_,_,_,_,_,_,_,_,_]) 10 0 5 bF rfl rfl rfl
 refine ND ?_
 refine M1 ?_
 intros
 refine My (aAU rfl (iA rfl mW) aFE h9) fun _=>?_
 refine M5 ?_
 intros
 refine N_callI (od:=odC [] true (fI y9) []) (Φ:=fI y9) rfl (fun _=>rfl) ⟨_,_,rfl,rfl,c3⟩ rfl rfl (iA rfl mW) aS.nil (aIo y8 y9 h10) (fun _=>?_)
 refine M2 ?_
 intros
 revert H;refine B1z fun y10 h11 H=>?_
 rcases y10 with y10 | pv4 <;> dsimp only at H
 refine Tc (aV _ _ h11).s ?_
 refine Z1 ?_
 exact Tm (()) (ij H)
 refine Tp (aV _ _ h11).pan ?_
 revert H;refine B1z fun r4 H e4=>?_
 cases e4;cases Hr2
 cases H
 exact aR
 exact fk
 kernel_rfl
 apply bG (ods:=[_,_,_,_,_,_,_,_,_,_]) 10 0 5 bF rfl rfl rfl
 refine ND ?_
 refine M1 ?_
 intros
 refine My (aAU rfl (iA rfl mW) aFE h9) fun _=>?_
 refine M8 ?_
 intros
 revert H;refine B1z fun y11 h12 H=>?_
 rcases y11 with y11 | pv5 <;> dsimp only at H
 refine Tc (aV _ _ h12).s ?_
 refine Z1 ?_
 exact Tm (()) (ij H)
 refine Tp (aV _ _ h12).pan ?_
 revert H;refine B1z fun r5 H e5=>?_
 cases e5;cases Hr2
 cases H
 exact aR
 exact fk
 kernel_rfl
 rintro i hi;subst o2;replace H:=Hr2;clear Hr2;try dsimp only at H ⊢
 revert H;refine B3z fun o3 H Hr3=>?_
 refine aQ (fun i=>o3=Sum.inl i) (fun i=>[(0,fEq (ptr p0)),(2,fI a2),(6,fEq (ptr b1)),(8,fI i)]) (fun i=>[aA b1 140 [fI y7.Op,fI y7.N,fSl cZ y7.Ag,fSl tI y7.AW],aA p0 174 [fSl aK a0.p.AF,fSl aN a0.p.AH,fSl aB a0.p.AE,fI a0.p.AG,fEq v1,fEq v2,fEq v3],aD v1 3 tI (a0.AS.set a1.toNat a2),aD v2 4 bW (a0.AT.set a1.toNat true),aD v3 4 bW a0.Aa]) ?_ ?_
 revert H;refine B5z fun y12 h13 H=>?_
 obtain⟨u1,x3⟩:=y12;dsimp only at H
 refine Yy (yT rfl (iA rfl mW) aGu aLf h13) ?_
 refine Z3 ?_
 revert H;refine cs (fun c4 H=>?_) fun c4 H=>?_
 refine Z12 ?_
 revert H;refine I1z (fun c5 H=>?_) fun c5 H=>?_
 revert H;refine B5z fun y13 h14 H=>?_
 rcases y13 with y13 | pv6 <;> dsimp only at H
 refine Tc (aV _ _ h14).s ?_
 refine Z3 ?_
 exact Tm (min (y7.Ag.length:Int) 3) (ij H)
 refine Tp (aV _ _ h14).pan ?_
 revert H;refine B2z fun r6 H e6=>?_
 cases e6;cases Hr3
 cases H
 exact aR
 revert H;refine B5z fun y14 h15 H=>?_
 rcases y14 with y14 | pv7 <;> dsimp only at H
 refine Tc (aV _ _ h15).s ?_
 refine Z3 ?_
 exact Tm (min (y7.Ag.length:Int) 3) (ij H)
 refine Tp (aV _ _ h15).pan ?_
 revert H;refine B2z fun r7 H e7=>?_
 cases e7;cases Hr3
 cases H
 exact aR
 revert H;refine B2z fun y15 h16 H=>?_
 obtain⟨u2,x4⟩:=y15;dsimp only at H
 refine Yy (yT rfl (iA rfl mW) aF7 aJq h16) ?_
 refine Z3 ?_
 revert H;refine cs (fun c6 H=>?_) fun c6 H=>?_
 revert H;refine I6z (fun c7 H=>?_) fun c7 H=>?_
 revert H;refine B5z fun y16 h17 H=>?_
 rcases y16 with y16 | pv8 <;> dsimp only at H
 refine Tc (aV _ _ h17).s ?_
 refine Z3 ?_
 exact Tm (0) (ij H)
 refine Tp (aV _ _ h17).pan ?_
 revert H;refine B2z fun r8 H e8=>?_
 cases e8;cases Hr3
 cases H
 exact aR
 revert H;refine B5z fun y17 h18 H=>?_
 rcases y17 with y17 | pv9 <;> dsimp only at H
 refine Tc (aV _ _ h18).s ?_
 refine Z3 ?_
 exact Tm (0) (ij H)
 refine Tp (aV _ _ h18).pan ?_
 revert H;refine B2z fun r9 H e9=>?_
 cases e9;cases Hr3
 cases H
 exact aR
 revert H;refine B2z fun y18 h19 H=>?_
 obtain⟨u3,x5⟩:=y18;dsimp only at H
 refine Yy (yT rfl (iA rfl mW) aGx aIh h19) ?_
 refine Z3 ?_
 revert H;refine cs (fun c8 H=>?_) fun c8 H=>?_
 revert H;refine I1z (fun c9 H=>?_) fun c9 H=>?_
 revert H;refine is (fun c10 H=>?_) fun c10 H=>?_
 revert H;refine bs fun y19 h20 H=>?_
 apply bG (ods:=[_,_,_,_,_,_,_,_,_,_,_,_,_,_,_,_,_,_,_,_,_,_,_,_,_]) 25 0 5 bF rfl rfl rfl
 refine ND ?_
 refine M8 ?_
 intros
 refine M8 ?_
 intros
 refine M5 ?_
 intros
 refine N_op (od:=odC [4] false (lZ v3 1 y7.N.toNat 0) [iE]) (ps:=[4]) (φ:=lZ v3 1 y7.N.toNat 0) rfl (fun _=>rfl) ⟨_,_,rfl,rfl,c10⟩ rfl rfl (lT rfl hh hh (el rfl) h20) (fun _=>?_)
 refine N_op (od:=odC [4] false (aH y19) [iE]) (ps:=[4]) (φ:=aH y19) rfl (fun _=>rfl) ⟨_,_,rfl,rfl,c10⟩ rfl rfl (jE rfl rfl hh (sc rfl) (idx_get h20) rfl) (fun _=>?_)
 refine M2 ?_
 intros
 revert H;refine B1z fun y20 h21 H=>?_
 rcases y20 with y20 | pv10 <;> dsimp only at H
 refine Tc (aV _ _ h21).s ?_
 refine Z3 ?_
 exact Tm (0) (ij H)
 refine Tp (aV _ _ h21).pan ?_
 revert H;refine B2z fun r10 H e10=>?_
 cases e10;cases Hr3
 cases H
 exact aR
 exact fk
 kernel_rfl
 apply bG (ods:=[_,_,_,_,_,_,_,_,_,_,_,_,_,_,_,_,_,_,_,_,_,_,_,_,_]) 25 0 5 bF rfl rfl rfl
 refine ND ?_
 refine M8 ?_
 intros
 refine M8 ?_
 intros
 refine M8 ?_
 intros
 refine M1 ?_
 intros
 revert H;refine B1z fun y21 h22 H=>?_
 rcases y21 with y21 | pv11 <;> dsimp only at H
 refine Tc (aV _ _ h22).s ?_
 refine Z3 ?_
 exact Tm (0) (ij H)
 refine Tp (aV _ _ h22).pan ?_
 revert H;refine B2z fun r11 H e11=>?_
 cases e11;cases Hr3
 cases H
 exact aR
 exact fk
 kernel_rfl
 apply bG (ods:=[_,_,_,_,_,_,_,_,_,_,_,_,_,_,_,_,_,_,_,_,_,_,_,_,_]) 25 0 5 bF rfl rfl rfl
 refine ND ?_
 refine M8 ?_
 intros
 refine M8 ?_
 intros
 refine M8 ?_
 intros
 refine M1 ?_
 intros
 revert H;refine B1z fun y22 h23 H=>?_
 rcases y22 with y22 | pv12 <;> dsimp only at H
 refine Tc (aV _ _ h23).s ?_
 refine Z3 ?_
 exact Tm (0) (ij H)
 refine Tp (aV _ _ h23).pan ?_
 revert H;refine B2z fun r12 H e12=>?_
 cases e12;cases Hr3
 cases H
 exact aR
 exact fk
 kernel_rfl
 revert H;refine B2z fun y23 h24 H=>?_
 obtain⟨u4,x6⟩:=y23;dsimp only at H
 refine Yy (yT rfl (iA rfl mW) aGa aIC h24) ?_
 refine Z3 ?_
 revert H;refine cs (fun c11 H=>?_) fun c11 H=>?_
 revert H;refine B8z fun y24 h25 H=>?_
 rcases y24 with y24 | pv13 <;> dsimp only at H
 refine Tc (aV _ _ h25).s ?_
 refine Z3 ?_
 exact Tm (1) (ij H)
 refine Tp (aV _ _ h25).pan ?_
 revert H;refine B2z fun r13 H e13=>?_
 cases e13;cases Hr3
 cases H
 exact aR
 revert H;refine B5z fun y25 h26 H=>?_
 rcases y25 with y25 | pv14 <;> dsimp only at H
 refine Tc (aV _ _ h26).s ?_
 refine Z3 ?_
 exact Tm (0) (ij H)
 refine Tp (aV _ _ h26).pan ?_
 revert H;refine B2z fun r14 H e14=>?_
 cases e14;cases Hr3
 cases H
 exact aR
 rintro x2 hi;subst o3;replace H:=Hr3;clear Hr3;try dsimp only at H ⊢
 refine B6 H fun y26 h27 H=>?_
 rcases y26 with y26 | pv15 <;> dsimp only at H
 refine Tc (aV _ _ h27).s ?_
 revert H;refine B1z fun o4 H Hr4=>?_
 refine aQ (ι:=Unit) (fun i=>o4=Sum.inl ()) (fun i=>[(0,fEq (ptr p0)),(2,fI a2),(6,fEq (ptr b1))]) (fun i=>[aA b1 140 [fI y7.Op,fI y7.N,fSl cZ y7.Ag,fSl tI y7.AW],aA p0 174 [fSl aK a0.p.AF,fSl aN a0.p.AH,fSl aB a0.p.AE,fI a0.p.AG,fEq v1,fEq v2,fEq v3],aD v1 3 tI (a0.AS.set a1.toNat a2),aD v2 4 bW (a0.AT.set a1.toNat true),aD v3 4 bW a0.Aa]) ?_ ?_
 refine Z7 ?_
 refine Th (ι:=Int) (fun i=>oU AA a2 y7 i.1 i.2=_) (fun i=>[(0,fEq (ptr p0)),(2,fI a2),(6,fEq (ptr b1)),(154,fSl cZ y7.Ag),(155,fI (y7.Ag.length:Int)),(156,fI i.2)]) (fun i=>[aA b1 140 [fI y7.Op,fI y7.N,fSl cZ y7.Ag,fSl tI y7.AW],aA p0 174 [fSl aK a0.p.AF,fSl aN a0.p.AH,fSl aB a0.p.AE,fI a0.p.AG,fEq v1,fEq v2,fEq v3],aD v1 3 tI (a0.AS.set a1.toNat a2),aD v2 4 bW (a0.AT.set a1.toNat true),aD v3 4 bW a0.Aa]) (AA,0) H (fun _ h=>nomatch h) ?_
 clear H;rintro k1 x8 H;dsimp only at H ⊢;rw [oU]at H
 refine Z3 ?_
 refine aL ?_
 revert H;refine is (fun c12 H=>?_) fun c12 H=>?_
 refine Z3 ?_
 refine aL ?_
 revert H;refine B2z fun y27 h28 H=>?_
 refine Z2 ?_
 refine Tn (cF rfl aDl rfl) fun b2=>?_
 refine cM (φs':=[fI y27.Op,fI y27.N,gC y27.AW]) a1W rfl rfl (has rfl) (has rfl) (aI (aG a1W) (aI (aG a1W) (aI (aBi) bM))) (sz rfl) rfl rfl rfl ?_
 revert H;refine B4z fun y28 h29 H=>?_
 rcases y28 with y28 | pv16 <;> dsimp only at H
 refine Tc (aEu _ _ _ _ h29).s ?_
 revert H;refine B4z fun z1 h30 H=>?_
 refine Z3 ?_
 refine aF [1,2,3,4,5] (by decide) ?_
 exact Tm ((k1,z1)) ⟨H,ls⟩
 refine Tp (aEu _ _ _ _ h29).pan ?_
 revert H;refine B5z fun r15 H e15=>?_
 cases e15;cases Hr4
 cases H
 exact aR
 refine Z6 ?_
 exact Tm (()) (ij H)
 rintro i hi;subst o4;replace H:=Hr4;clear Hr4;try dsimp only at H ⊢
 revert H;refine bs fun o5 H Hr5=>?_
 refine aQ (ι:=Int × List ByteArray × List Af × List AN × Int × List Int × List Bool × List Bool × Value × Value × Value) (fun i=>o5=Sum.inl (i.1,i.2.1,i.2.2.1,i.2.2.2.1,i.2.2.2.2.1,i.2.2.2.2.2.1,i.2.2.2.2.2.2.1,i.2.2.2.2.2.2.2.1)) (fun i=>[(0,fEq (ptr p0)),(2,fI i.1),(6,fEq (ptr b1))]) (fun i=>[aA b1 140 [fI y7.Op,fI y7.N,fSl cZ y7.Ag,fSl tI y7.AW],aA p0 174 [fSl aK i.2.1,fSl aN i.2.2.1,fSl aB i.2.2.2.1,fI i.2.2.2.2.1,fEq i.2.2.2.2.2.2.2.2.1,fEq i.2.2.2.2.2.2.2.2.2.1,fEq i.2.2.2.2.2.2.2.2.2.2],aD i.2.2.2.2.2.2.2.2.1 3 tI i.2.2.2.2.2.1,aD i.2.2.2.2.2.2.2.2.2.1 4 bW i.2.2.2.2.2.2.1,aD i.2.2.2.2.2.2.2.2.2.2 4 bW i.2.2.2.2.2.2.2.1]) ?_ ?_
 revert H;refine I5z (fun c13 H=>?_) fun c13 H=>?_
 refine Z1 ?_
 refine aL ?_
 revert H;refine bs fun y29 h31 H=>?_
 apply bG (ods:=[_,_,_,_,_,_,_,_]) 8 0 5 bF rfl rfl rfl
 refine ND ?_
 refine M7 ?_
 intros
 refine tQ (od:=odC [4] true (eG) [aD v3 4 bW (a0.Aa.set y7.N.toNat true)]) (p:=4) (z':=true) rfl (fun _=>rfl) (fun _=>rfl) a1W rfl rfl rfl rfl (has rfl) (has rfl) (aG a1W) (sz rfl) (idx_get h31) rfl rfl (fun _=>?_)
 refine Z2 ?_
 refine aL ?_
 revert H;refine bs fun y30 h32 H=>?_
 apply bG (ods:=[_,_,_,_,_,_,_,_,_,_,_]) 11 1 6 bF rfl rfl rfl
 refine ND ?_
 refine M8 ?_
 intros
 refine M1 ?_
 intros
 refine Mn 5 (fun b3=>ptr b3) (fun b3=>aA b3 63 [fEq (.slice none 0 0),fEq (.slice none 0 0),fEq (.slice none 0 0)]) rfl (cF rfl qN rfl) (fun b3 u5=>?_)
 refine rI (od:=od1 9 [5] true (fun b3 _=>eG) (fun b3 _=>[aA b3 63 [fSl bC y30.AQ,fSl bD y30.AP,fSl bB y30.AO]])) (p:=5) (φs':=[fSl bC y30.AQ,fSl bD y30.AP,fSl bB y30.AO]) rfl (fun _=>rfl) (fun _=>rfl) a1W rfl rfl rfl (has rfl) (has rfl) (aI (bR) (aI (bR) (aI (bR) bM))) (sz rfl) rfl rfl rfl (fun _=>?_)
 revert H;refine B4z fun y31 h33 H=>?_
 rcases y31 with y31 | pv17 <;> dsimp only at H
 refine Tc (aEf _ _ _ h33).s ?_
 revert H;refine B4z fun y32 h34 H=>?_
 refine Tc (aJ3 _ _ h34) ?_
 revert H;refine bs fun z2 h35 H=>?_
 revert H;refine B3z fun o6 H Hr6=>?_
 refine aQ (ι:=List ByteArray × List Af × List AN × Int × List Int × List Bool × List Bool × Value × Value × Value) (fun i=>o6=Sum.inl (i.1,i.2.1,i.2.2.1,i.2.2.2.1,i.2.2.2.2.1,i.2.2.2.2.2.1,i.2.2.2.2.2.2.1)) (fun i=>[(0,fEq (ptr p0)),(2,fI z2),(6,fEq (ptr b1)),(11,fEq (ptr b3))]) (fun i=>[aA b1 140 [fI y7.Op,fI y7.N,fSl cZ y7.Ag,fSl tI y7.AW],aA p0 174 [fSl aK i.1,fSl aN i.2.1,fSl aB i.2.2.1,fI i.2.2.2.1,fEq i.2.2.2.2.2.2.2.1,fEq i.2.2.2.2.2.2.2.2.1,fEq i.2.2.2.2.2.2.2.2.2],aA b3 63 [fSl bC y30.AQ,fSl bD y30.AP,fSl bB y30.AO],aD i.2.2.2.2.2.2.2.1 3 tI i.2.2.2.2.1,aD i.2.2.2.2.2.2.2.2.1 4 bW i.2.2.2.2.2.1,aD i.2.2.2.2.2.2.2.2.2 4 bW i.2.2.2.2.2.2.1]) ?_ ?_
 refine Z7 ?_
 refine aF [0,1,5,2,3,4] (by decide) ?_
 refine Th (ι:=Int × List ByteArray × List Af × List AN × Int × List Int × List Bool × List Bool × Value × Value × Value) (fun i=>oX AA (fT AA) y30 z2 i.1 i.2.1 i.2.2.1 i.2.2.2.1 i.2.2.2.2.1 i.2.2.2.2.2.1 i.2.2.2.2.2.2.1 i.2.2.2.2.2.2.2.1 i.2.2.2.2.2.2.2.2.1=_) (fun i=>[(0,fEq (ptr p0)),(2,fI z2),(6,fEq (ptr b1)),(11,fEq (ptr b3)),(190,fSl bB y30.AO),(191,fI (y30.AO.length:Int)),(192,fI i.2.1)]) (fun i=>[aA b1 140 [fI y7.Op,fI y7.N,fSl cZ y7.Ag,fSl tI y7.AW],aA p0 174 [fSl aK i.2.2.1,fSl aN i.2.2.2.1,fSl aB i.2.2.2.2.1,fI i.2.2.2.2.2.1,fEq i.2.2.2.2.2.2.2.2.2.1,fEq i.2.2.2.2.2.2.2.2.2.2.1,fEq i.2.2.2.2.2.2.2.2.2.2.2],aA b3 63 [fSl bC y30.AQ,fSl bD y30.AP,fSl bB y30.AO],aD i.2.2.2.2.2.2.2.2.2.1 3 tI i.2.2.2.2.2.2.1,aD i.2.2.2.2.2.2.2.2.2.2.1 4 bW i.2.2.2.2.2.2.2.1,aD i.2.2.2.2.2.2.2.2.2.2.2 4 bW i.2.2.2.2.2.2.2.2.1]) (AA,0,a0.p.AF,a0.p.AH,a0.p.AE,a0.p.AG,a0.AS.set a1.toNat a2,a0.AT.set a1.toNat true,a0.Aa.set y7.N.toNat true,v1,v2,v3) H (fun _ h=>nomatch h) ?_
 clear H;rintro k2 ⟨x32,x33,x34,x35,x36,x37,x38,x39,v13,v14,v15⟩ H;dsimp only at H ⊢;rw [oX]at H
 refine rc 3 fun _=>?_
 refine rc 4 fun _=>?_
 refine rc 5 fun _=>?_
 refine Z3 ?_
 refine aL ?_
 revert H;refine is (fun c14 H=>?_) fun c14 H=>?_
 refine Z3 ?_
 refine aL ?_
 revert H;refine B2z fun y33 h36 H=>?_
 refine Z2 ?_
 refine Tn (cF rfl mF rfl) fun b4=>?_
 refine cM (φs':=[fI y33.At,fSl tI y33.AZ,fI y33.AU]) a1W rfl rfl (has rfl) (has rfl) (aI (aG a1W) (aI (bR) (aI (aG a1W) bM))) (sz rfl) rfl rfl rfl ?_
 revert H;refine B1z fun y34 h37 H=>?_
 revert H;refine bs fun z3 h38 H=>?_
 apply bG (ods:=[_,_,_,_,_,_,_,_]) 8 0 7 bF rfl rfl rfl
 refine ND ?_
 refine M6 ?_
 intros
 refine Nc (aI2 _ _ _ _ h37) fun _=>?_
 refine M1 ?_
 intros
 refine Z1 ?_
 refine iQ ?_
 refine iQ ?_
 refine iQ ?_
 refine gD ?_
 refine yG ?_
 revert H;refine bs fun y35 h39 H=>?_
 rcases y35 with y35 | pv18 <;> dsimp only at H
 refine Tc (ih_scope_looker_node _ _ _ _ _ h39).s ?_
 refine wI (fun v16 v17 v18=>?_)
 refine rc 1 fun _=>?_
 refine rc 2 fun _=>?_
 refine rc 3 fun _=>?_
 revert H;refine B4z fun z4 h40 H=>?_
 refine Z3 ?_
 refine aF [5,0,6,1,2,3] (by decide) ?_
 exact Tm ((k2,z4,y35.p.AF,y35.p.AH,y35.p.AE,y35.p.AG,y35.AS,y35.AT,y35.Aa,v16,v17,v18)) ⟨H,ls⟩
 refine Tp (ih_scope_looker_node _ _ _ _ _ h39).pan ?_
 revert H;refine B5z fun r16 H e16=>?_
 cases e16;cases Hr6
 revert H;refine B1z fun r17 H e17=>?_
 cases e17;cases Hr5
 cases H
 exact aR
 exact fk
 kernel_rfl
 refine Z6 ?_
 exact Tm ((x33,x34,x35,x36,x37,x38,x39,v13,v14,v15)) (ij H)
 rintro⟨x17,x18,x19,x20,x21,x22,x23,v7,v8,v9⟩ hi;subst o6;replace H:=Hr6;clear Hr6;try dsimp only at H ⊢
 refine rc 3 fun _=>?_
 refine rc 4 fun _=>?_
 refine rc 5 fun _=>?_
 refine Z7 ?_
 refine Th (ι:=Int × List ByteArray × List Af × List AN × Int × List Int × List Bool × List Bool × Value × Value × Value) (fun i=>oZ (fT AA) y30 z2 i.1 i.2.1 i.2.2.1 i.2.2.2.1 i.2.2.2.2.1 i.2.2.2.2.2.1 i.2.2.2.2.2.2.1 i.2.2.2.2.2.2.2.1 i.2.2.2.2.2.2.2.2.1=_) (fun i=>[(0,fEq (ptr p0)),(2,fI z2),(6,fEq (ptr b1)),(207,fSl bD y30.AP),(208,fI (y30.AP.length:Int)),(209,fI i.2.1)]) (fun i=>[aA b1 140 [fI y7.Op,fI y7.N,fSl cZ y7.Ag,fSl tI y7.AW],aA p0 174 [fSl aK i.2.2.1,fSl aN i.2.2.2.1,fSl aB i.2.2.2.2.1,fI i.2.2.2.2.2.1,fEq i.2.2.2.2.2.2.2.2.2.1,fEq i.2.2.2.2.2.2.2.2.2.2.1,fEq i.2.2.2.2.2.2.2.2.2.2.2],aA b3 63 [fSl bC y30.AQ,fSl bD y30.AP,fSl bB y30.AO],aD i.2.2.2.2.2.2.2.2.2.1 3 tI i.2.2.2.2.2.2.1,aD i.2.2.2.2.2.2.2.2.2.2.1 4 bW i.2.2.2.2.2.2.2.1,aD i.2.2.2.2.2.2.2.2.2.2.2 4 bW i.2.2.2.2.2.2.2.2.1]) (AA,0,x17,x18,x19,x20,x21,x22,x23,v7,v8,v9) H (fun _ h=>nomatch h) ?_
 clear H;rintro k3 ⟨x48,x49,x50,x51,x52,x53,x54,x55,v22,v23,v24⟩ H;dsimp only at H ⊢;rw [oZ]at H
 refine rc 3 fun _=>?_
 refine rc 4 fun _=>?_
 refine rc 5 fun _=>?_
 refine Z3 ?_
 refine aL ?_
 revert H;refine is (fun c15 H=>?_) fun c15 H=>?_
 refine Z3 ?_
 refine aL ?_
 revert H;refine B2z fun y36 h41 H=>?_
 refine Z2 ?_
 refine Tn (cF rfl qJ rfl) fun b5=>?_
 refine cM (φs':=[fI y36.In,fI y36.AU]) a1W rfl rfl (has rfl) (has rfl) (aI (aG a1W) (aI (aG a1W) bM)) (sz rfl) rfl rfl rfl ?_
 refine Z6 ?_
 refine iQ ?_
 refine iQ ?_
 refine iQ ?_
 refine gD ?_
 refine yG ?_
 revert H;refine bs fun y37 h42 H=>?_
 rcases y37 with y37 | pv19 <;> dsimp only at H
 refine Tc (ih_scope_looker_node _ _ _ _ _ h42).s ?_
 refine wI (fun v25 v26 v27=>?_)
 refine rc 1 fun _=>?_
 refine rc 2 fun _=>?_
 refine rc 3 fun _=>?_
 revert H;refine B4z fun z5 h43 H=>?_
 refine Z3 ?_
 refine aF [5,0,6,1,2,3] (by decide) ?_
 exact Tm ((k3,z5,y37.p.AF,y37.p.AH,y37.p.AE,y37.p.AG,y37.AS,y37.AT,y37.Aa,v25,v26,v27)) ⟨H,ls⟩
 refine Tp (ih_scope_looker_node _ _ _ _ _ h42).pan ?_
 revert H;refine B5z fun r18 H e18=>?_
 cases e18;cases Hr5
 cases H
 exact aR
 refine Z6 ?_
 refine aF [0,1,3,4,5] (by decide) ?_
 exact Tm ((z2,x49,x50,x51,x52,x53,x54,x55,v22,v23,v24)) (ij H)
 refine Tp (aEf _ _ _ h33).pan ?_
 revert H;refine B2z fun r19 H e19=>?_
 cases e19;cases Hr5
 cases H
 exact aR
 exact fk
 kernel_rfl
 exact fk
 kernel_rfl
 refine Z3 ?_
 exact Tm ((a2,a0.p.AF,a0.p.AH,a0.p.AE,a0.p.AG,a0.AS.set a1.toNat a2,a0.AT.set a1.toNat true,a0.Aa,v1,v2,v3)) (ij H)
 rintro⟨x9,x10,x11,x12,x13,x14,x15,x16,v4,v5,v6⟩ hi;subst o5;replace H:=Hr5;clear Hr5;try dsimp only at H ⊢
 refine rc 2 fun _=>?_
 refine rc 3 fun _=>?_
 refine rc 4 fun _=>?_
 refine Z7 ?_
 refine Th (ι:=Int × List ByteArray × List Af × List AN × Int × List Int × List Bool × List Bool × Value × Value × Value) (fun i=>pU (fT AA) y7 x9 i.1 i.2.1 i.2.2.1 i.2.2.2.1 i.2.2.2.2.1 i.2.2.2.2.2.1 i.2.2.2.2.2.2.1 i.2.2.2.2.2.2.2.1 i.2.2.2.2.2.2.2.2.1=_) (fun i=>[(0,fEq (ptr p0)),(2,fI x9),(220,fSl tI y7.AW),(221,fI (y7.AW.length:Int)),(222,fI i.2.1)]) (fun i=>[aA b1 140 [fI y7.Op,fI y7.N,fSl cZ y7.Ag,fSl tI y7.AW],aA p0 174 [fSl aK i.2.2.1,fSl aN i.2.2.2.1,fSl aB i.2.2.2.2.1,fI i.2.2.2.2.2.1,fEq i.2.2.2.2.2.2.2.2.2.1,fEq i.2.2.2.2.2.2.2.2.2.2.1,fEq i.2.2.2.2.2.2.2.2.2.2.2],aD i.2.2.2.2.2.2.2.2.2.1 3 tI i.2.2.2.2.2.2.1,aD i.2.2.2.2.2.2.2.2.2.2.1 4 bW i.2.2.2.2.2.2.2.1,aD i.2.2.2.2.2.2.2.2.2.2.2 4 bW i.2.2.2.2.2.2.2.2.1]) (AA,0,x10,x11,x12,x13,x14,x15,x16,v4,v5,v6) H (fun _ h=>nomatch h) ?_
 clear H;rintro k4 ⟨x64,x65,x66,x67,x68,x69,x70,x71,v31,v32,v33⟩ H;dsimp only at H ⊢;rw [pU]at H
 refine rc 2 fun _=>?_
 refine rc 3 fun _=>?_
 refine rc 4 fun _=>?_
 refine Z3 ?_
 refine aL ?_
 refine iz H (fun c16 H=>?_) fun c16 H=>?_
 refine Z3 ?_
 refine aL ?_
 refine B2 H fun y38 h44 H=>?_
 refine Z8 ?_
 refine aO ?_
 refine aO ?_
 refine aO ?_
 refine aO ?_
 refine yG ?_
 refine bz H fun y39 h45 H=>?_
 rcases y39 with y39 | pv20 <;> dsimp only at H
 refine Tc (ih_scope_looker_node _ _ _ _ _ h45).s ?_
 refine wI (fun v34 v35 v36=>?_)
 refine rc 1 fun _=>?_
 refine rc 2 fun _=>?_
 refine rc 3 fun _=>?_
 refine B4 H fun z6 h46 H=>?_
 refine Z3 ?_
 refine aF [4,0,1,2,3] (by decide) ?_
 exact Tm ((k4,z6,y39.p.AF,y39.p.AH,y39.p.AE,y39.p.AG,y39.AS,y39.AT,y39.Aa,v34,v35,v36)) ⟨H,ls⟩
 refine Tp (ih_scope_looker_node _ _ _ _ _ h45).pan ?_
 refine Z4 ?_
 cases H
 exact aR
 refine Z5 ?_
 refine aO ?_
 refine aO ?_
 refine aO ?_
 refine aO ?_
 refine yG ?_
 cases H
 refine fS ?_
 refine aF [0] (by decide) ?_
 exact cK (.inr rfl) rfl rfl
 refine Tp (aV _ _ h27).pan ?_
 refine Z1 ?_
 cases H
 exact aR
 exact fk
 kernel_rfl
open Go.SX Go.SW Go.Dt
def sD (a0:List Bool) (a1:Bool):Nat->Int->Option ((Unit) ⊕ (Int))
| 0,_=>none
| k+1,x2=>
 if x2<(a0.length:Int)then
  (idx a0 x2).bind fun y1=>
  bif a1==y1 then
   (some x2).bind fun r=>some (Sum.inr r)
  else
   (chk (x2+1)).bind fun z1=>
   sD a0 a1 k z1
 else
  some (Sum.inl ())
def aBg (AA:Nat) (a0:List Bool) (a1:Bool):Option (Int):=
 (sD a0 a1 AA 0).bind fun o=>match o with
 | Sum.inr r=>some r
 | Sum.inl _=>
 some (-1)
theorem aK3 (AA:Nat)  (a0:List Bool) (a1:Bool) (r:Int) (H:aBg AA a0 a1=some r):FnS Tryz.prog 179 [fSl bW a0,aH a1] [] (fI r) (fun _=>[]):=by
 unfold aBg at H
 refine bS Tryz.func179 rfl Tryz.ntmps179 rfl (fun β=>?_)
 revert H;refine B3z fun o1 H Hr1=>?_
 refine aQ (ι:=Unit) (fun i=>o1=Sum.inl ()) (fun i=>[]) (fun i=>[]) ?_ ?_
 refine Z6 ?_
 refine Th (ι:=Int) (fun i=>sD a0 a1 i.1 i.2=_) (fun i=>[(0,fSl bW a0),(1,aH a1),(7,fI (a0.length:Int)),(8,fI i.2)]) (fun i=>[]) (AA,0) H (fun _ h=>nomatch h) ?_
 clear H;rintro k1 x2 H;dsimp only at H ⊢;rw [sD]at H
 refine Z3 ?_
 refine aL ?_
 revert H;refine is (fun c1 H=>?_) fun c1 H=>?_
 refine Z3 ?_
 refine aL ?_
 revert H;refine B9z fun y1 h1 H=>?_
 refine Z2 ?_
 refine Yy (o_eqlB rfl hh hh aJQ) ?_
 refine Z1 ?_
 revert H;refine cs (fun c2 H=>?_) fun c2 H=>?_
 revert H;refine jR fun r1 H e1=>?_
 cases e1;cases Hr1
 cases H
 exact To
 revert H;refine B5z fun z1 h2 H=>?_
 refine Z3 ?_
 exact Tm ((k1,z1)) ⟨H,ls⟩
 refine Z6 ?_
 exact Tm (()) (ij H)
 rintro i hi;subst o1;replace H:=Hr1;clear Hr1;try dsimp only at H ⊢
 refine Z4 ?_
 cases H
 exact To
def uQ (AA:Nat) (a0:List Bool) (a1:Bool):Option (Bool):=
 (aBg AA a0 a1).bind fun y1=>
 some (decide (0<=y1))
theorem aFn (AA:Nat)  (a0:List Bool) (a1:Bool) (r:Bool) (H:uQ AA a0 a1=some r):FnS Tryz.prog 162 [fSl bW a0,aH a1] [] (aH r) (fun _=>[]):=by
 unfold uQ at H
 refine bS Tryz.func162 rfl Tryz.ntmps162 rfl (fun β=>?_)
 refine B6 H fun y1 h1 H=>?_
 refine Tc (aK3 _ _ _ _ h1) ?_
 refine Z4 ?_
 cases H
 exact To
def pA (AA:Nat) (a0:AL):Nat->Int->Option ((Unit) ⊕ (Ap ⊕ Value))
| 0,_=>none
| k+1,x2=>
 if x2<(a0.AF.length:Int)then
  ((idx a0.AF x2).bind fun y4=>
  (qT AA y4).bind fun y5=>
  bif y5 then
   if x2=0 then
    (bQ true).bind fun y6=>
    match y6 with
    | Sum.inr pv4=>((some (Sum.inr pv4)).bind fun r=>some (Sum.inr r)).bind fun r=>some (Sum.inr r)
    | Sum.inl y6=>
    some (Sum.inl ())
   else
    (chk (x2 - 1)).bind fun z1=>
    (idx a0.AF z1).bind fun y7=>
    (bQ (slt y7 y4)).bind fun y8=>
    match y8 with
    | Sum.inr pv5=>((some (Sum.inr pv5)).bind fun r=>some (Sum.inr r)).bind fun r=>some (Sum.inr r)
    | Sum.inl y8=>
    some (Sum.inl ())
  else
   (bQ false).bind fun y9=>
   match y9 with
   | Sum.inr pv6=>((some (Sum.inr pv6)).bind fun r=>some (Sum.inr r)).bind fun r=>some (Sum.inr r)
   | Sum.inl y9=>
   some (Sum.inl ())).bind fun o=>match o with
  | Sum.inr r=>some r
  | Sum.inl _=>
  (chk (x2+1)).bind fun z2=>
  pA AA a0 k z2
 else
  some (Sum.inl ())
def zN (AA:Nat) (a0:AL):Option (Ap ⊕ Value):=
 (if (a0.AF.length:Int)<=12 then
  if (a0.AH.length:Int)<=60 then
   (bQ (decide ((a0.AE.length:Int)<=12))).bind fun y1=>
   match y1 with
   | Sum.inr pv1=>(some (Sum.inr pv1)).bind fun r=>some (Sum.inr r)
   | Sum.inl y1=>
   some (Sum.inl ())
  else
   (bQ false).bind fun y2=>
   match y2 with
   | Sum.inr pv2=>(some (Sum.inr pv2)).bind fun r=>some (Sum.inr r)
   | Sum.inl y2=>
   some (Sum.inl ())
 else
  (bQ false).bind fun y3=>
  match y3 with
  | Sum.inr pv3=>(some (Sum.inr pv3)).bind fun r=>some (Sum.inr r)
  | Sum.inl y3=>
  some (Sum.inl ())).bind fun o=>match o with
 | Sum.inr r=>some r
 | Sum.inl _=>
 (pA AA a0 AA 0).bind fun o=>match o with
 | Sum.inr r=>some r
 | Sum.inl _=>
 (mk 0 (a0.AH.length:Int)).bind fun y10=>
 (mk false (a0.AH.length:Int)).bind fun y11=>
 (mk false (a0.AE.length:Int)).bind fun y12=>
 (fT AA (⟨(⟨a0.AF,a0.AH,a0.AE,a0.AG⟩:AL),y10,y11,y12⟩:Ap) a0.AG (a0.AF.length:Int)).bind fun y13=>
 match y13 with
 | Sum.inr pv7=>some (Sum.inr pv7)
 | Sum.inl y13=>
 ((uQ AA y13.AT false).bind fun y14=>
 bif !y14 then
  (uQ AA y13.Aa false).bind fun y15=>
  (bQ (!y15)).bind fun y16=>
  match y16 with
  | Sum.inr pv8=>(some (Sum.inr pv8)).bind fun r=>some (Sum.inr r)
  | Sum.inl y16=>
  some (Sum.inl y13.Aa)
 else
  (bQ false).bind fun y17=>
  match y17 with
  | Sum.inr pv9=>(some (Sum.inr pv9)).bind fun r=>some (Sum.inr r)
  | Sum.inl y17=>
  some (Sum.inl y13.Aa)).bind fun o=>match o with
 | Sum.inr r=>some r
 | Sum.inl x3=>
 some (Sum.inl (⟨(⟨y13.p.AF,y13.p.AH,y13.p.AE,y13.p.AG⟩:AL),y13.AS,y13.AT,x3⟩:Ap))
theorem aGM (AA:Nat)  (a0:AL) (r:Ap ⊕ Value) (H:zN AA a0=some r):FnE Tryz.prog 141 [fSt gL a0] [] r (fun r=>aU mI r) (fun r=>[]):=by
 unfold zN at H
 refine gO Tryz.func141 rfl Tryz.ntmps141 rfl (fun β=>?_)
 refine Z1 ?_
 refine Tn (cA rfl hh bT) fun b1=>?_
 revert H;refine B2z fun o1 H Hr1=>?_
 refine aQ (ι:=Unit) (fun i=>o1=Sum.inl ()) (fun i=>[(1,fEq (ptr b1))]) (fun i=>[aA b1 37 [fSl aK a0.AF,fSl aN a0.AH,fSl aB a0.AE,fI a0.AG]]) ?_ ?_
 revert H;refine I6z (fun c1 H=>?_) fun c1 H=>?_
 revert H;refine I6z (fun c2 H=>?_) fun c2 H=>?_
 revert H;refine B5z fun y1 h1 H=>?_
 rcases y1 with y1 | pv1 <;> dsimp only at H
 refine Tc (aV _ _ h1).s ?_
 refine Z1 ?_
 exact Tm (()) (ij H)
 refine Tp (aV _ _ h1).pan ?_
 revert H;refine B1z fun r1 H e1=>?_
 cases e1;cases Hr1
 cases H
 exact aR
 revert H;refine B5z fun y2 h2 H=>?_
 rcases y2 with y2 | pv2 <;> dsimp only at H
 refine Tc (aV _ _ h2).s ?_
 refine Z1 ?_
 exact Tm (()) (ij H)
 refine Tp (aV _ _ h2).pan ?_
 revert H;refine B1z fun r2 H e2=>?_
 cases e2;cases Hr1
 cases H
 exact aR
 revert H;refine jR fun y3 h3 H=>?_
 rcases y3 with y3 | pv3 <;> dsimp only at H
 refine Tc (aV _ _ h3).s ?_
 refine Z1 ?_
 exact Tm (()) (ij H)
 refine Tp (aV _ _ h3).pan ?_
 revert H;refine B1z fun r3 H e3=>?_
 cases e3;cases Hr1
 cases H
 exact aR
 rintro i hi;subst o1;replace H:=Hr1;clear Hr1;try dsimp only at H ⊢
 revert H;refine bs fun o2 H Hr2=>?_
 refine aQ (ι:=Unit) (fun i=>o2=Sum.inl ()) (fun i=>[(1,fEq (ptr b1))]) (fun i=>[aA b1 37 [fSl aK a0.AF,fSl aN a0.AH,fSl aB a0.AE,fI a0.AG]]) ?_ ?_
 refine Z7 ?_
 refine Th (ι:=Int) (fun i=>pA AA a0 i.1 i.2=_) (fun i=>[(1,fEq (ptr b1)),(24,fSl aK a0.AF),(25,fI (a0.AF.length:Int)),(26,fI i.2)]) (fun i=>[aA b1 37 [fSl aK a0.AF,fSl aN a0.AH,fSl aB a0.AE,fI a0.AG]]) (AA,0) H (fun _ h=>nomatch h) ?_
 clear H;rintro k1 x2 H;dsimp only at H ⊢;rw [pA]at H
 refine Z3 ?_
 refine aL ?_
 revert H;refine is (fun c3 H=>?_) fun c3 H=>?_
 revert H;refine B3z fun o3 H Hr3=>?_
 refine aQ (ι:=Unit) (fun i=>o3=Sum.inl ()) (fun i=>[(1,fEq (ptr b1)),(24,fSl aK a0.AF),(25,fI (a0.AF.length:Int)),(26,fI x2)]) (fun i=>[aA b1 37 [fSl aK a0.AF,fSl aN a0.AH,fSl aB a0.AE,fI a0.AG]]) ?_ ?_
 revert H;refine B3z fun y4 h4 H=>?_
 revert H;refine B7z fun y5 h5 H=>?_
 refine Tc (aLk _ _ _ h5) ?_
 refine Z1 ?_
 revert H;refine cs (fun c4 H=>?_) fun c4 H=>?_
 revert H;refine I3z (fun c5 H=>?_) fun c5 H=>?_
 revert H;refine hO fun y6 h6 H=>?_
 rcases y6 with y6 | pv4 <;> dsimp only at H
 refine Tc (aV _ _ h6).s ?_
 refine Z3 ?_
 exact Tm (()) (ij H)
 refine Tp (aV _ _ h6).pan ?_
 revert H;refine B2z fun r4 H e4=>?_
 cases e4;cases Hr3
 revert H;refine B3z fun r5 H e5=>?_
 cases e5;cases Hr2
 cases H
 exact aR
 revert H;refine B3z fun z1 h7 H=>?_
 revert H;refine B1z fun y7 h8 H=>?_
 refine Z3 ?_
 refine Yg c5 (o_lssS rfl hh hh) ?_
 revert H;refine B2z fun y8 h9 H=>?_
 rcases y8 with y8 | pv5 <;> dsimp only at H
 refine Tc (aV _ _ h9).s ?_
 refine Z3 ?_
 exact Tm (()) (ij H)
 refine Tp (aV _ _ h9).pan ?_
 revert H;refine B2z fun r6 H e6=>?_
 cases e6;cases Hr3
 revert H;refine B3z fun r7 H e7=>?_
 cases e7;cases Hr2
 cases H
 exact aR
 refine Z3 ?_
 refine cT (⟨_,_,_,_,rfl,rfl,rfl,nu⟩) rfl rfl ?_
 refine cT (⟨_,_,_,_,rfl,rfl,rfl,nu⟩) rfl rfl ?_
 refine cT (⟨_,_,_,_,rfl,rfl,rfl,nu⟩) rfl rfl ?_
 refine cT (⟨_,_,_,_,rfl,rfl,rfl,nu⟩) rfl rfl ?_
 refine cT (⟨_,_,_,_,rfl,rfl,rfl,nu⟩) rfl rfl ?_
 refine cT (⟨_,_,_,_,rfl,rfl,rfl,nu⟩) rfl rfl ?_
 refine cT (⟨_,_,_,_,rfl,rfl,rfl,nu⟩) rfl rfl ?_
 refine cT (⟨_,_,_,_,rfl,rfl,rfl,nu⟩) rfl rfl ?_
 revert H;refine B2z fun y9 h10 H=>?_
 rcases y9 with y9 | pv6 <;> dsimp only at H
 refine Tc (aV _ _ h10).s ?_
 refine Z3 ?_
 exact Tm (()) (ij H)
 refine Tp (aV _ _ h10).pan ?_
 revert H;refine B2z fun r8 H e8=>?_
 cases e8;cases Hr3
 revert H;refine B3z fun r9 H e9=>?_
 cases e9;cases Hr2
 cases H
 exact aR
 rintro i hi;subst o3;replace H:=Hr3;clear Hr3;try dsimp only at H ⊢
 revert H;refine B1z fun z2 h11 H=>?_
 refine Z3 ?_
 exact Tm ((k1,z2)) ⟨H,ls⟩
 refine Z6 ?_
 exact Tm (()) (ij H)
 rintro i hi;subst o2;replace H:=Hr2;clear Hr2;try dsimp only at H ⊢
 refine aL ?_
 refine bz H fun y10 h12 H=>?_
 refine bz H fun y11 h13 H=>?_
 refine bz H fun y12 h14 H=>?_
 apply bG (ods:=[_,_,_,_,_,_,_,_,_,_,_,_,_,_,_,_]) 16 4 5 bF rfl rfl rfl
 refine ND ?_
 refine M4 ?_
 intros
 refine Mn 1 (fun b2=> .slice (some ⟨b2,0,none⟩) y10.length y10.length) (fun b2=>aD (.slice (some ⟨b2,0,none⟩) y10.length y10.length) 3 tI y10) rfl (oY (t:=tI) (z:=0) rfl (has rfl) (et rfl) rfl sM rfl h12) (fun b2 u1=>?_)
 refine M3 ?_
 intros
 refine Mn 2 (fun b3=> .slice (some ⟨b3,0,none⟩) y11.length y11.length) (fun b3=>aD (.slice (some ⟨b3,0,none⟩) y11.length y11.length) 4 bW y11) rfl (oY (t:=bW) (z:=false) rfl (has rfl) (et rfl) rfl aA2 rfl h13) (fun b3 u2=>?_)
 refine M3 ?_
 intros
 refine Mn 3 (fun b4=> .slice (some ⟨b4,0,none⟩) y12.length y12.length) (fun b4=>aD (.slice (some ⟨b4,0,none⟩) y12.length y12.length) 4 bW y12) rfl (oY (t:=bW) (z:=false) rfl (has rfl) (et rfl) rfl aA2 rfl h14) (fun b4 u3=>?_)
 refine N_y (od:=od3 4 8 12 [] false (fun b2 _ b3 _ b4 _=>fU [fSl aK a0.AF,fSl aN a0.AH,fSl aB a0.AE,fI a0.AG,fEq (.slice (some ⟨b2,0,none⟩) y10.length y10.length),fEq (.slice (some ⟨b3,0,none⟩) y11.length y11.length),fEq (.slice (some ⟨b4,0,none⟩) y12.length y12.length)]) (fun b2 _ b3 _ b4 _=>[])) (φ:=fU [fSl aK a0.AF,fSl aN a0.AH,fSl aB a0.AE,fI a0.AG,fEq (.slice (some ⟨b2,0,none⟩) y10.length y10.length),fEq (.slice (some ⟨b3,0,none⟩) y11.length y11.length),fEq (.slice (some ⟨b4,0,none⟩) y12.length y12.length)]) rfl (fun _=>rfl) a1W rfl (fK (ψs:=[fSl aK a0.AF,fSl aN a0.AH,fSl aB a0.AE,fI a0.AG,fEq (.slice (some ⟨b2,0,none⟩) y10.length y10.length),fEq (.slice (some ⟨b3,0,none⟩) y11.length y11.length),fEq (.slice (some ⟨b4,0,none⟩) y12.length y12.length)]) rfl aIS rfl (bL.cons (has rfl) bT (bL.cons (has rfl) (cI (aG a1W)) (bL.cons (has rfl) (cI (aG a1W)) (bL.cons (has rfl) (cI (aG a1W)) bL.nil)))) rfl) (fun _=>?_)
 refine N_new (od:=odN3 4 8 12 [4] true (fun b2 _ b3 _ b4 _ b5 _=>fEq (ptr b5)) (fun b2 _ b3 _ b4 _ b5 _=>[aA b5 174 [fSl aK a0.AF,fSl aN a0.AH,fSl aB a0.AE,fI a0.AG,fEq (.slice (some ⟨b2,0,none⟩) y10.length y10.length),fEq (.slice (some ⟨b3,0,none⟩) y11.length y11.length),fEq (.slice (some ⟨b4,0,none⟩) y12.length y12.length)]])) (p:=4) (f:=fun b5=>ptr b5) (τ:=fun b5=>aA b5 174 [fSl aK a0.AF,fSl aN a0.AH,fSl aB a0.AE,fI a0.AG,fEq (.slice (some ⟨b2,0,none⟩) y10.length y10.length),fEq (.slice (some ⟨b3,0,none⟩) y11.length y11.length),fEq (.slice (some ⟨b4,0,none⟩) y12.length y12.length)]) rfl (fun _=>rfl) (fun _=>rfl) a1W rfl rfl (cA rfl (has rfl) bT) (fun b5 u4=>?_)
 refine D1 14 b5 _ (fun b5 _=>fEq (ptr b5)) rfl (aCX rfl hh) (fun _=>?_)
 refine Z1 ?_
 generalize (Value.slice (some ⟨b2,0,none⟩) _ _)=v1
 refine rc 1 fun _=>?_
 generalize (Value.slice (some ⟨b3,0,none⟩) _ _)=v2
 refine rc 2 fun _=>?_
 generalize (Value.slice (some ⟨b4,0,none⟩) _ _)=v3
 refine rc 3 fun _=>?_
 refine Z8 ?_
 refine bA ?_
 refine bA ?_
 refine bA ?_
 refine aO ?_
 refine yG ?_
 refine bz H fun y13 h15 H=>?_
 rcases y13 with y13 | pv7 <;> dsimp only at H
 refine Tc (aEg _ _ _ _ _ _ h15).s ?_
 refine wI (fun v4 v5 v6=>?_)
 refine rc 1 fun _=>?_
 refine rc 2 fun _=>?_
 refine rc 3 fun _=>?_
 revert H;refine B1z fun o4 H Hr4=>?_
 refine aQ (fun i=>o4=Sum.inl i) (fun i=>[(5,fEq (ptr b5))]) (fun i=>[aA b5 174 [fSl aK y13.p.AF,fSl aN y13.p.AH,fSl aB y13.p.AE,fI y13.p.AG,fEq v4,fSl bW y13.AT,fSl bW i],aA b1 37 [fSl aK a0.AF,fSl aN a0.AH,fSl aB a0.AE,fI a0.AG],aD v4 3 tI y13.AS]) ?_ ?_
 refine Z5 ?_
 refine aM ?_
 refine dI (φ:=fSl bW y13.AT) (v:=v5) [74] eT fz ?_
 refine fP (φs':=[fSl aK y13.p.AF,fSl aN y13.p.AH,fSl aB y13.p.AE,fI y13.p.AG,fEq v4,fSl bW y13.AT,fEq v6]) (i:=5) rfl rfl ?_
 refine dH ?_
 revert H;refine bs fun y14 h16 H=>?_
 refine Tc (aFn _ _ _ _ h16) ?_
 refine Z2 ?_
 revert H;refine cs (fun c6 H=>?_) fun c6 H=>?_
 refine Z4 ?_
 refine aM ?_
 refine dI (φ:=fSl bW y13.Aa) (v:=v6) [81] eT fz ?_
 refine fP (φs':=[fSl aK y13.p.AF,fSl aN y13.p.AH,fSl aB y13.p.AE,fI y13.p.AG,fEq v4,fSl bW y13.AT,fSl bW y13.Aa]) (i:=6) rfl rfl ?_
 refine dH ?_
 revert H;refine bs fun y15 h17 H=>?_
 refine Tc (aFn _ _ _ _ h17) ?_
 revert H;refine B2z fun y16 h18 H=>?_
 rcases y16 with y16 | pv8 <;> dsimp only at H
 refine Tc (aV _ _ h18).s ?_
 refine Z1 ?_
 refine aF [0,2,1] (by decide) ?_
 exact Tm (y13.Aa) (ij H)
 refine Tp (aV _ _ h18).pan ?_
 revert H;refine B1z fun r10 H e10=>?_
 cases e10;cases Hr4
 cases H
 exact aR
 revert H;refine B7z fun y17 h19 H=>?_
 rcases y17 with y17 | pv9 <;> dsimp only at H
 refine Tc (aV _ _ h19).s ?_
 refine Z1 ?_
 refine aM ?_
 refine dI (φ:=fSl bW y13.Aa) (v:=v6) [] eT (fun _ h=>nomatch h) ?_
 refine fP (φs':=[fSl aK y13.p.AF,fSl aN y13.p.AH,fSl aB y13.p.AE,fI y13.p.AG,fEq v4,fSl bW y13.AT,fSl bW y13.Aa]) (i:=6) rfl rfl ?_
 refine dH ?_
 refine aF [0,2,1] (by decide) ?_
 exact Tm (y13.Aa) (ij H)
 refine Tp (aV _ _ h19).pan ?_
 revert H;refine B1z fun r11 H e11=>?_
 cases e11;cases Hr4
 cases H
 exact aR
 rintro x3 hi;subst o4;replace H:=Hr4;clear Hr4;try dsimp only at H ⊢
 refine Z5 ?_
 refine aM ?_
 refine dI (φ:=fSl tI y13.AS) (v:=v4) [] eT (fun _ h=>nomatch h) ?_
 refine fP (φs':=[fSl aK y13.p.AF,fSl aN y13.p.AH,fSl aB y13.p.AE,fI y13.p.AG,fSl tI y13.AS,fSl bW y13.AT,fSl bW x3]) (i:=4) rfl rfl ?_
 refine dH ?_
 refine dI (φ:=aU mI (⟨y13.p,y13.AS,y13.AT,x3⟩:Ap)) (v:=ptr b5) [5,86,2] (iH aJ.rfl) fz ?_
 refine dH ?_
 cases H
 refine fS ?_
 refine aF [] (by decide) ?_
 exact To
 refine Tp (aEg _ _ _ _ _ _ h15).pan ?_
 refine Z1 ?_
 cases H
 exact aR
 exact fk
 kernel_rfl
def xP (AA:Nat) (a0:AL) (a1:Ap->Option (List Int)):Option ((List Int) × Int):=
 (zN AA (⟨a0.AF,a0.AH,a0.AE,a0.AG⟩:AL)).bind fun y1=>
 match y1 with
 | Sum.inr pv1=>(unI 240 pv1).bind fun e1=>some ([],e1)
 | Sum.inl y1=>
 (a1 y1).bind fun y2=>
 some (y2,0)
theorem aK8 (AA:Nat)  (a0:AL) (a1:Ap->Option (List Int)) (r:(List Int) × Int) (H:xP AA a0 a1=some r):FnS Tryz.prog 124 [fSt gL a0,fFn Tryz.prog (fun (x:Ap)=>[aU mI x]) (fun (r:List Int)=>fSl tI r) a1] [] (dA [fSl tI r.1,fI r.2]) (fun _=>[]):=by
 unfold xP at H
 refine aGO Tryz.func124 rfl Tryz.ntmps124 rfl (fun β=>?_)
 refine Z1 ?_
 refine Tn (cA rfl hh bT) fun b1=>?_
 refine Z1 ?_
 refine Tn (cF rfl ty_ze_29 rfl) fun b2=>?_
 refine Z2 ?_
 refine T_defer a1W rfl rfl (jO.cons (has rfl) jO.nil) ?_
 refine B4 H fun y1 h1 H=>?_
 rcases y1 with y1 | pv1 <;> dsimp only at H
 refine Tc (aGM _ _ _ h1).s ?_
 refine bz H fun y2 h2 H=>?_
 refine aE8 y1 a1W rfl rfl rfl (has rfl) (aS.cons (has rfl) aS.nil) h2 ?_
 refine Z1 ?_
 refine cQ (φs':=[fI 0]) a1W rfl rfl (has rfl) (has rfl) (aG a1W) (sz rfl) rfl rfl ?_
 refine Z2 ?_
 cases H
 refine aF [0] (by decide) ?_
 exact aDB (T_outD (u:= .returning) (by simp) rfl (dS rfl) rfl (sc rfl) (cb rfl) (aIp b2 0) rfl rfl)
 refine Tp (aGM _ _ _ h1).pan ?_
 refine Z1 ?_
 have H0:=H;clear H;obtain⟨e1,h3,H⟩:=bind_some H0;clear H0;have hv_e1:=unI_some h3;subst hv_e1
 cases H
 refine aF [0] (by decide) ?_
 exact jW (T_outD (u:= .panicking [{ v:= .iface 240 (.agg #[.int .i64 e1]),recovered:=false }]) (by simp) rfl (nV rfl fF) rfl (sc rfl) (cb rfl) (aLa b2 0 e1) rfl rfl)
def oR (a0:Ap) (w0:AL) (w1:Ap × Int->Option Int):Nat->(List Int)->Int->Option (List Int)
| 0,_,_=>none
| k+1,x4,x5=>
 if x5<(w0.AH.length:Int)then
  (w1 (a0,x5)).bind fun y1=>
  (eP (x4++[y1])).bind fun z1=>
  (chk (x5+1)).bind fun z2=>
  oR a0 w0 w1 k z1 z2
 else
  some x4
def xW (AA:Nat) (a0:Ap) (w0:AL) (w1:Ap × Int->Option Int):Option (List Int):=
 (oR a0 w0 w1 AA [] 0).bind fun x1=>
 some x1
theorem aJt (AA:Nat)  (a0:Ap) (w0:AL) (w1:Ap × Int->Option Int) (r:List Int) (H:xW AA a0 w0 w1=some r):FnS Tryz.prog 125 [aU mI a0,aU gL w0,aU (tFn Tryz.prog (fun (x:Ap × Int)=>[aU mI x.1,fI x.2]) (fun (r:Int)=>fI r)) w1] [] (fSl tI r) (fun _=>[]):=by
 unfold xW at H
 refine bS Tryz.func125 rfl Tryz.ntmps125 rfl (fun β=>?_)
 revert H;refine B6z fun o1 H Hr1=>?_
 refine aQ (ι:=List Int × Value) (fun i=>o1=i.1) (fun i=>[(5,fEq i.2)]) (fun i=>[aD i.2 3 tI i.1]) ?_ ?_
 refine Z7 ?_
 refine gK tI 3 ?_
 refine Th (ι:=List Int × Int × Value) (fun i=>oR a0 w0 w1 i.1 i.2.1 i.2.2.1=_) (fun i=>[(0,aU mI a0),(2,aU (tFn Tryz.prog (fun (x:Ap × Int)=>[aU mI x.1,fI x.2]) (fun (r:Int)=>fI r)) w1),(5,fEq i.2.2.2),(9,fI (w0.AH.length:Int)),(10,fI i.2.2.1)]) (fun i=>[aD i.2.2.2 3 tI i.2.1]) (AA,[],0,(.slice none 0 0)) H (fun _ h=>nomatch h) ?_
 clear H;rintro k1 ⟨x4,x5,v3⟩ H;dsimp only at H ⊢;rw [oR]at H
 refine rc 0 fun _=>?_
 refine Z3 ?_
 refine aL ?_
 revert H;refine is (fun c1 H=>?_) fun c1 H=>?_
 refine Z3 ?_
 refine aL ?_
 revert H;refine hO fun y1 h1 H=>?_
 refine aE8 (a0,x5) a1W rfl rfl rfl (has rfl) (aS.cons (has rfl) (aS.cons (has rfl) aS.nil)) h1 ?_
 refine Tn (gI (t:=tI) (xs:=[y1]) rfl (et rfl) (cE.cons rfl (has rfl) (cI (aG a1W)) cE.nil) rfl rfl rfl) fun b1=>?_
 generalize (Value.slice (some ⟨b1,0,none⟩) _ _)=v4
 refine rc 0 fun _=>?_
 revert H;refine bs fun z1 h2 H=>?_
 refine lP a1W rfl rfl rfl (has rfl) (has rfl) (et rfl) rfl h2 (fun v5=>?_)
 refine rc 0 fun _=>?_
 revert H;refine B5z fun z2 h3 H=>?_
 refine Z3 ?_
 exact Tm ((k1,z1,z2,v5)) ⟨H,ls⟩
 refine Z6 ?_
 exact Tm ((x4,v3)) (ij H)
 rintro⟨x1,v1⟩ hi;subst o1;replace H:=Hr1;clear Hr1;try dsimp only at H ⊢
 refine rc 0 fun _=>?_
 refine Z5 ?_
 refine dI (φ:=fSl tI x1) (v:=v1) [5,21,4] eT fz ?_
 refine dH ?_
 cases H
 exact To
def zG (AA:Nat) (a0:AL) (a1:Ap × Int->Option Int):Option ((List Int) × Int):=
 (xP AA (⟨a0.AF,a0.AH,a0.AE,a0.AG⟩:AL) (fun x=>xW AA x (⟨a0.AF,a0.AH,a0.AE,a0.AG⟩:AL) a1)).bind fun y1=>
 some (y1.1,y1.2)
theorem aH7 (AA:Nat)  (a0:AL) (a1:Ap × Int->Option Int) (r:(List Int) × Int) (H:zG AA a0 a1=some r):FnS Tryz.prog 82 [fSt gL a0,fFn Tryz.prog (fun (x:Ap × Int)=>[aU mI x.1,fI x.2]) (fun (r:Int)=>fI r) a1] [] (dA [fSl tI r.1,fI r.2]) (fun _=>[]):=by
 unfold zG at H
 refine bS Tryz.func82 rfl Tryz.ntmps82 rfl (fun β=>?_)
 refine Z1 ?_
 refine Tn (cA rfl hh bT) fun b1=>?_
 refine Tn (cA rfl (has rfl) (cI (aGS))) fun b2=>?_
 refine Z5 ?_
 refine aW ?_
 refine dI (φ:=aU gL a0) (v:=ptr b1) [2] (iH aJ.rfl) fz ?_
 refine dH ?_
 refine dI (φ:=aU (tFn Tryz.prog (fun (x:Ap × Int)=>[aU mI x.1,fI x.2]) (fun (r:Int)=>fI r)) a1) (v:=ptr b2) [3] (iH aJ.rfl) fz ?_
 refine dH ?_
 refine Yy (oN rfl (aS.cons hh (aS.cons hh aS.nil))) ?_
 refine bz H fun y1 h1 H=>?_
 refine yK a1W rfl rfl rfl hh (aS.cons hh (aS.cons (iA rfl (ent_fn (cb rfl) (fun x r hx=>aJt AA x a0 a1 r hx))) aS.nil)) rfl (cb rfl) (aK8 AA a0 (fun x=>xW AA x a0 a1) y1 h1) rfl ?_
 refine Z6 ?_
 cases H
 exact T_out2 rfl (dS rfl) (dS rfl) rfl
def qI (a0:Ap) (a1:Int):Option (Int):=
 (idx a0.AS a1).bind fun y1=>
 some y1
theorem aKv  (a0:Ap) (a1:Int) (r:Int) (H:qI a0 a1=some r):FnS Tryz.prog 83 [aU mI a0,fI a1] [] (fI r) (fun _=>[]):=by
 unfold qI at H
 refine bS Tryz.func83 rfl Tryz.ntmps83 rfl (fun β=>?_)
 refine B9 H fun y1 h1 H=>?_
 refine Z5 ?_
 cases H
 exact To
def sQ (AA:Nat) (a0:AL):Option ((List Int) × Int):=
 (zG AA (⟨a0.AF,a0.AH,a0.AE,a0.AG⟩:AL) (fun x=>qI x.1 x.2)).bind fun y1=>
 some (y1.1,y1.2)
theorem aJm (AA:Nat)  (a0:AL) (r:(List Int) × Int) (H:sQ AA a0=some r):FnS Tryz.prog 35 [fSt gL a0] [] (dA [fSl tI r.1,fI r.2]) (fun _=>[]):=by
 unfold sQ at H
 refine bS Tryz.func35 rfl Tryz.ntmps35 rfl (fun β=>?_)
 refine Z1 ?_
 refine Tn (cA rfl hh bT) fun b1=>?_
 refine B5 H fun y1 h1 H=>?_
 refine yK a1W rfl rfl rfl hh (aS.cons hh (aS.cons (iA rfl (ent_fn0 (cb rfl) (fun (x:Ap × Int) r hx=>aKv x.1 x.2 r hx))) aS.nil)) rfl (cb rfl) (aH7 AA a0 (fun x=>qI x.1 x.2) y1 h1) rfl ?_
 refine Z6 ?_
 cases H
 refine aF [] (by decide) ?_
 exact T_out2 rfl (dS rfl) (dS rfl) rfl
def rM (y1:AN):Nat->(List Int)->Int->Option (List Int)
| 0,_,_=>none
| k+1,x10,x11=>
 if x11<(y1.AO.length:Int)then
  (idx y1.AO x11).bind fun y2=>
  (eP (x10++[y2.AU])).bind fun z1=>
  (chk (x11+1)).bind fun z2=>
  rM y1 k z1 z2
 else
  some x10
def qK (y1:AN):Nat->(List Int)->Int->Option (List Int)
| 0,_,_=>none
| k+1,x14,x15=>
 if x15<(y1.AP.length:Int)then
  (idx y1.AP x15).bind fun y3=>
  (eP (x14++[y3.AU])).bind fun z3=>
  (chk (x15+1)).bind fun z4=>
  qK y1 k z3 z4
 else
  some x14
def rA (AA:Nat) (a0:AL):Nat->(List Int)->Int->Option (List Int)
| 0,_,_=>none
| k+1,x4,x5=>
 if x5<(a0.AE.length:Int)then
  ((idx a0.AE x5).bind fun y1=>
  (rM y1 AA x4 0).bind fun x7=>
  qK y1 AA x7 0).bind fun x6=>
  (chk (x5+1)).bind fun z5=>
  rA AA a0 k x6 z5
 else
  some x4
def qF (a0:AL):Nat->(List Int)->Int->Option (List Int)
| 0,_,_=>none
| k+1,x19,x20=>
 if x20<(a0.AH.length:Int)then
  ((idx a0.AH x20).bind fun y4=>
  if y4.Op=6 then
   (idx y4.AW 0).bind fun y5=>
   (eP (x19++[y5])).bind fun z6=>
   some z6
  else
   if y4.Op=8 then
    (idx y4.AW 0).bind fun y6=>
    (eP (x19++[y6])).bind fun z7=>
    some z7
   else
    some x19).bind fun x21=>
  (chk (x20+1)).bind fun z8=>
  qF a0 k x21 z8
 else
  some x19
def wG (AA:Nat) (a0:AL):Option (List Int):=
 (rA AA a0 AA [a0.AG] 0).bind fun x1=>
 (qF a0 AA x1 0).bind fun x16=>
 (aCh x16).bind fun y7=>
 some y7
theorem aIw (AA:Nat)  (a0:AL) (r:List Int) (H:wG AA a0=some r):FnS Tryz.prog 36 [fSt gL a0] [] (fSl tI r) (fun _=>[]):=by
 unfold wG at H
 refine bS Tryz.func36 rfl Tryz.ntmps36 rfl (fun β=>?_)
 refine Z1 ?_
 refine Tn (cA rfl hh bT) fun b1=>?_
 refine Z5 ?_
 refine Tn (gI (t:=tI) (xs:=[a0.AG]) rfl (et rfl) (cE.cons rfl (has rfl) (cI (aG a1W)) cE.nil) rfl rfl rfl) fun b2=>?_
 generalize (Value.slice (some ⟨b2,0,none⟩) _ _)=v1
 refine rc 0 fun _=>?_
 revert H;refine B2z fun o1 H Hr1=>?_
 refine aQ (ι:=List Int × Value) (fun i=>o1=i.1) (fun i=>[(1,fEq (ptr b1)),(3,fEq i.2)]) (fun i=>[aA b1 37 [fSl aK a0.AF,fSl aN a0.AH,fSl aB a0.AE,fI a0.AG],aD i.2 3 tI i.1]) ?_ ?_
 refine Z7 ?_
 refine aF [1,0] (by decide) ?_
 refine Th (ι:=List Int × Int × Value) (fun i=>rA AA a0 i.1 i.2.1 i.2.2.1=_) (fun i=>[(1,fEq (ptr b1)),(3,fEq i.2.2.2),(16,fSl aB a0.AE),(17,fI (a0.AE.length:Int)),(18,fI i.2.2.1)]) (fun i=>[aA b1 37 [fSl aK a0.AF,fSl aN a0.AH,fSl aB a0.AE,fI a0.AG],aD i.2.2.2 3 tI i.2.1]) (AA,[a0.AG],0,v1) H (fun _ h=>nomatch h) ?_
 clear H;rintro k1 ⟨x4,x5,v4⟩ H;dsimp only at H ⊢;rw [rA]at H
 refine rc 1 fun _=>?_
 refine Z3 ?_
 refine aL ?_
 revert H;refine is (fun c1 H=>?_) fun c1 H=>?_
 revert H;refine B3z fun o2 H Hr2=>?_
 refine aQ (ι:=List Int × Value) (fun i=>o2=i.1) (fun i=>[(1,fEq (ptr b1)),(3,fEq i.2),(16,fSl aB a0.AE),(17,fI (a0.AE.length:Int)),(18,fI x5)]) (fun i=>[aA b1 37 [fSl aK a0.AF,fSl aN a0.AH,fSl aB a0.AE,fI a0.AG],aD i.2 3 tI i.1]) ?_ ?_
 revert H;refine B2z fun y1 h1 H=>?_
 refine Z2 ?_
 refine Tn (cF rfl qN rfl) fun b3=>?_
 refine cM (φs':=[fSl bC y1.AQ,fSl bD y1.AP,fSl bB y1.AO]) a1W rfl rfl (has rfl) (has rfl) (aI (bR) (aI (bR) (aI (bR) bM))) (sz rfl) rfl rfl rfl ?_
 revert H;refine B1z fun o3 H Hr3=>?_
 refine aQ (ι:=List Int × Value) (fun i=>o3=i.1) (fun i=>[(1,fEq (ptr b1)),(3,fEq i.2),(16,fSl aB a0.AE),(17,fI (a0.AE.length:Int)),(18,fI x5),(5,fEq (ptr b3))]) (fun i=>[aA b3 63 [fSl bC y1.AQ,fSl bD y1.AP,fSl bB y1.AO],aA b1 37 [fSl aK a0.AF,fSl aN a0.AH,fSl aB a0.AE,fI a0.AG],aD i.2 3 tI i.1]) ?_ ?_
 refine Z7 ?_
 refine Th (ι:=List Int × Int × Value) (fun i=>rM y1 i.1 i.2.1 i.2.2.1=_) (fun i=>[(1,fEq (ptr b1)),(3,fEq i.2.2.2),(16,fSl aB a0.AE),(17,fI (a0.AE.length:Int)),(18,fI x5),(5,fEq (ptr b3)),(23,fSl bB y1.AO),(24,fI (y1.AO.length:Int)),(25,fI i.2.2.1)]) (fun i=>[aA b3 63 [fSl bC y1.AQ,fSl bD y1.AP,fSl bB y1.AO],aA b1 37 [fSl aK a0.AF,fSl aN a0.AH,fSl aB a0.AE,fI a0.AG],aD i.2.2.2 3 tI i.2.1]) (AA,x4,0,v4) H (fun _ h=>nomatch h) ?_
 clear H;rintro k2 ⟨x10,x11,v8⟩ H;dsimp only at H ⊢;rw [rM]at H
 refine rc 2 fun _=>?_
 refine Z3 ?_
 refine aL ?_
 revert H;refine is (fun c2 H=>?_) fun c2 H=>?_
 refine Z3 ?_
 refine aL ?_
 revert H;refine B2z fun y2 h2 H=>?_
 refine Z2 ?_
 refine Tn (cF rfl mF rfl) fun b4=>?_
 refine cM (φs':=[fI y2.At,fSl tI y2.AZ,fI y2.AU]) a1W rfl rfl (has rfl) (has rfl) (aI (aG a1W) (aI (bR) (aI (aG a1W) bM))) (sz rfl) rfl rfl rfl ?_
 refine Z5 ?_
 refine Tn (gI (t:=tI) (xs:=[y2.AU]) rfl (et rfl) (cE.cons rfl (has rfl) (cI (aG a1W)) cE.nil) rfl rfl rfl) fun b5=>?_
 generalize (Value.slice (some ⟨b5,0,none⟩) _ _)=v9
 refine rc 0 fun _=>?_
 revert H;refine bs fun z1 h3 H=>?_
 refine aO ?_
 refine aW ?_
 refine lP a1W rfl rfl rfl (has rfl) (has rfl) (et rfl) rfl h3 (fun v10=>?_)
 refine rc 0 fun _=>?_
 revert H;refine B5z fun z2 h4 H=>?_
 refine Z3 ?_
 refine aF [2,3,0] (by decide) ?_
 exact Tm ((k2,z1,z2,v10)) ⟨H,ls⟩
 refine Z6 ?_
 exact Tm ((x10,v8)) (ij H)
 rintro⟨x7,v6⟩ hi;subst o3;replace H:=Hr3;clear Hr3;try dsimp only at H ⊢
 refine rc 2 fun _=>?_
 refine Z7 ?_
 refine Th (ι:=List Int × Int × Value) (fun i=>qK y1 i.1 i.2.1 i.2.2.1=_) (fun i=>[(1,fEq (ptr b1)),(3,fEq i.2.2.2),(16,fSl aB a0.AE),(17,fI (a0.AE.length:Int)),(18,fI x5),(36,fSl bD y1.AP),(37,fI (y1.AP.length:Int)),(38,fI i.2.2.1)]) (fun i=>[aA b3 63 [fSl bC y1.AQ,fSl bD y1.AP,fSl bB y1.AO],aA b1 37 [fSl aK a0.AF,fSl aN a0.AH,fSl aB a0.AE,fI a0.AG],aD i.2.2.2 3 tI i.2.1]) (AA,x7,0,v6) H (fun _ h=>nomatch h) ?_
 clear H;rintro k3 ⟨x14,x15,v12⟩ H;dsimp only at H ⊢;rw [qK]at H
 refine rc 2 fun _=>?_
 refine Z3 ?_
 refine aL ?_
 revert H;refine is (fun c3 H=>?_) fun c3 H=>?_
 refine Z3 ?_
 refine aL ?_
 revert H;refine B2z fun y3 h5 H=>?_
 refine Z2 ?_
 refine Tn (cF rfl qJ rfl) fun b6=>?_
 refine cM (φs':=[fI y3.In,fI y3.AU]) a1W rfl rfl (has rfl) (has rfl) (aI (aG a1W) (aI (aG a1W) bM)) (sz rfl) rfl rfl rfl ?_
 refine Z5 ?_
 refine Tn (gI (t:=tI) (xs:=[y3.AU]) rfl (et rfl) (cE.cons rfl (has rfl) (cI (aG a1W)) cE.nil) rfl rfl rfl) fun b7=>?_
 generalize (Value.slice (some ⟨b7,0,none⟩) _ _)=v13
 refine rc 0 fun _=>?_
 revert H;refine bs fun z3 h6 H=>?_
 refine aO ?_
 refine aW ?_
 refine lP a1W rfl rfl rfl (has rfl) (has rfl) (et rfl) rfl h6 (fun v14=>?_)
 refine rc 0 fun _=>?_
 revert H;refine B5z fun z4 h7 H=>?_
 refine Z3 ?_
 refine aF [2,3,0] (by decide) ?_
 exact Tm ((k3,z3,z4,v14)) ⟨H,ls⟩
 refine Z7 ?_
 refine aF [1,2] (by decide) ?_
 exact Tm ((x14,v12)) (ij H)
 rintro⟨x6,v5⟩ hi;subst o2;replace H:=Hr2;clear Hr2;try dsimp only at H ⊢
 refine rc 1 fun _=>?_
 revert H;refine B1z fun z5 h8 H=>?_
 refine Z3 ?_
 exact Tm ((k1,x6,z5,v5)) ⟨H,ls⟩
 refine Z6 ?_
 exact Tm ((x4,v4)) (ij H)
 rintro⟨x1,v2⟩ hi;subst o1;replace H:=Hr1;clear Hr1;try dsimp only at H ⊢
 refine rc 1 fun _=>?_
 revert H;refine bs fun o4 H Hr4=>?_
 refine aQ (ι:=List Int × Value) (fun i=>o4=i.1) (fun i=>[(3,fEq i.2)]) (fun i=>[aA b1 37 [fSl aK a0.AF,fSl aN a0.AH,fSl aB a0.AE,fI a0.AG],aD i.2 3 tI i.1]) ?_ ?_
 refine Z7 ?_
 refine Th (ι:=List Int × Int × Value) (fun i=>qF a0 i.1 i.2.1 i.2.2.1=_) (fun i=>[(3,fEq i.2.2.2),(50,fSl aN a0.AH),(51,fI (a0.AH.length:Int)),(52,fI i.2.2.1)]) (fun i=>[aA b1 37 [fSl aK a0.AF,fSl aN a0.AH,fSl aB a0.AE,fI a0.AG],aD i.2.2.2 3 tI i.2.1]) (AA,x1,0,v2) H (fun _ h=>nomatch h) ?_
 clear H;rintro k4 ⟨x19,x20,v17⟩ H;dsimp only at H ⊢;rw [qF]at H
 refine rc 1 fun _=>?_
 refine Z3 ?_
 refine aL ?_
 revert H;refine is (fun c4 H=>?_) fun c4 H=>?_
 revert H;refine B3z fun o5 H Hr5=>?_
 refine aQ (ι:=List Int × Value) (fun i=>o5=i.1) (fun i=>[(50,fSl aN a0.AH),(51,fI (a0.AH.length:Int)),(52,fI x20),(3,fEq i.2)]) (fun i=>[aA b1 37 [fSl aK a0.AF,fSl aN a0.AH,fSl aB a0.AE,fI a0.AG],aD i.2 3 tI i.1]) ?_ ?_
 revert H;refine B2z fun y4 h9 H=>?_
 refine Z2 ?_
 refine Tn (cF rfl xE rfl) fun b8=>?_
 refine cM (φs':=[fI y4.Op,fI y4.N,fSl cZ y4.Ag,fSl tI y4.AW]) a1W rfl rfl (has rfl) (has rfl) (aI (aG a1W) (aI (aG a1W) (aI (bR) (aI (bR) bM)))) (sz rfl) rfl rfl rfl ?_
 revert H;refine I6z (fun c5 H=>?_) fun c5 H=>?_
 revert H;refine hO fun y5 h10 H=>?_
 refine Yy (eH rfl hh hh (el rfl) h10) ?_
 refine Z1 ?_
 refine Tn (gI (t:=tI) (xs:=[y5]) rfl (et rfl) (cE.cons rfl (has rfl) (cI (aG a1W)) cE.nil) rfl rfl rfl) fun b9=>?_
 generalize (Value.slice (some ⟨b9,0,none⟩) _ _)=v19
 refine rc 0 fun _=>?_
 revert H;refine bs fun z6 h11 H=>?_
 refine bA ?_
 refine aW ?_
 refine lP a1W rfl rfl rfl (has rfl) (has rfl) (et rfl) rfl h11 (fun v20=>?_)
 refine rc 0 fun _=>?_
 refine Z4 ?_
 refine aF [2,0] (by decide) ?_
 exact Tm ((z6,v20)) (ij H)
 revert H;refine I5z (fun c6 H=>?_) fun c6 H=>?_
 revert H;refine B5z fun y6 h12 H=>?_
 refine Z2 ?_
 refine Tn (gI (t:=tI) (xs:=[y6]) rfl (et rfl) (cE.cons rfl (has rfl) (cI (aG a1W)) cE.nil) rfl rfl rfl) fun b10=>?_
 generalize (Value.slice (some ⟨b10,0,none⟩) _ _)=v21
 refine rc 0 fun _=>?_
 revert H;refine bs fun z7 h13 H=>?_
 refine bA ?_
 refine aW ?_
 refine lP a1W rfl rfl rfl (has rfl) (has rfl) (et rfl) rfl h13 (fun v22=>?_)
 refine rc 0 fun _=>?_
 refine Z4 ?_
 refine aF [2,0] (by decide) ?_
 exact Tm ((z7,v22)) (ij H)
 refine Z4 ?_
 refine aF [1,2] (by decide) ?_
 exact Tm ((x19,v17)) (ij H)
 rintro⟨x21,v18⟩ hi;subst o5;replace H:=Hr5;clear Hr5;try dsimp only at H ⊢
 refine rc 1 fun _=>?_
 revert H;refine B1z fun z8 h14 H=>?_
 refine Z3 ?_
 exact Tm ((k4,x21,z8,v18)) ⟨H,ls⟩
 refine Z6 ?_
 exact Tm ((x19,v17)) (ij H)
 rintro⟨x16,v15⟩ hi;subst o4;replace H:=Hr4;clear Hr4;try dsimp only at H ⊢
 refine rc 1 fun _=>?_
 refine Z2 ?_
 refine aW ?_
 refine bz H fun y7 h15 H=>?_
 refine Tc (aFi _ _ _ h15) ?_
 refine Z6 ?_
 refine dI (φ:=fSl tI y7) (v:=v15) [3,72,74,2] eT fz ?_
 refine dH ?_
 cases H
 refine aF [] (by decide) ?_
 exact To
def iJ (a0:Ai) (a1:Int) (a2:Int) (a3:Int):Option (Ai):=
 (eP (a0.tape.code++[(⟨a1,a2,a3⟩:AI)])).bind fun z1=>
 some (⟨(⟨z1⟩:cO),(⟨a0.p.AF,a0.p.AH,a0.p.AE,a0.p.AG⟩:AL),a0.AS,a0.Aq⟩:Ai)
theorem lG (p0:Nat) (a0:Ai) (a1:Int) (a2:Int) (a3:Int) (r:Ai) (H:iJ a0 a1 a2 a3=some r):FnS Tryz.prog 38 [fEq (.pointer (some ⟨p0,0,none⟩)),fI a1,fI a2,fI a3] [fZ p0 a0] (dA []) (fun _=>[fZ p0 r]):=by
 unfold iJ at H
 refine bS Tryz.func38 rfl Tryz.ntmps38 rfl (fun β=>?_)
 refine dN (fun v1 v2=>?_)
 refine aM ?_
 refine bP (fun b1 h1=>?_);subst h1
 refine rc 2 fun _=>?_
 refine Z9 ?_
 refine Yy (fK (ψs:=[fI a1,fI a2,fI a3]) rfl ty_bu_73 rfl (bL.cons (has rfl) (cI (aG a1W)) (bL.cons (has rfl) (cI (aG a1W)) (bL.cons (has rfl) (cI (aG a1W)) bL.nil))) rfl) ?_
 refine Tn (gI (t:=aP) (xs:=[(⟨a1,a2,a3⟩:AI)]) rfl (et rfl) (cE.cons rfl hh bT cE.nil) rfl rfl rfl) fun b2=>?_
 generalize (Value.slice (some ⟨b2,0,none⟩) _ _)=v3
 refine rc 0 fun _=>?_
 refine bz H fun z1 h2 H=>?_
 refine bA ?_
 refine aW ?_
 refine lP a1W rfl rfl rfl (has rfl) (has rfl) (et rfl) rfl h2 (fun v4=>?_)
 refine rc 0 fun hc_v4=>?_
 refine Z2 ?_
 refine aM ?_
 refine cQ (φs':=[fEq v4,fSl aK a0.p.AF,fSl aN a0.p.AH,fSl aB a0.p.AE,fI a0.p.AG,fSl tI a0.AS,fEq (.map (some b1))]) a1W rfl rfl (has rfl) (has rfl) (aG hc_v4) (sz rfl) rfl rfl ?_
 refine Z1 ?_
 refine aM ?_
 refine bH ?_
 refine aM ?_
 refine aM ?_
 refine cW ?_
 cases H
 exact cK (.inr rfl) rfl rfl
def aAv (a0:Int):Option (Int):=
 (chk (a0 - 3)).bind fun z1=>
 (chk (3+z1)).bind fun z2=>
 some z2
theorem aKo  (a0:Int) (r:Int) (H:aAv a0=some r):FnS Tryz.prog 128 [fI a0] [] (fI r) (fun _=>[]):=by
 unfold aAv at H
 refine bS Tryz.func128 rfl Tryz.ntmps128 rfl (fun β=>?_)
 refine B5 H fun z1 h1 H=>?_
 refine B1 H fun z2 h2 H=>?_
 refine Z4 ?_
 cases H
 exact To
open Go.SX Go.SW Go.Dt
def mU:Nat->Ai->Ah->Option (Ai)
| 0,_,_=>none
| AA+1,a0,a1=>
 if a1.Op=1 then
  (iJ (⟨(⟨a0.tape.code⟩:cO),(⟨a0.p.AF,a0.p.AH,a0.p.AE,a0.p.AG⟩:AL),a0.AS,a0.Aq⟩:Ai) 1 a1.N 0).bind fun y1=>
  some (⟨(⟨y1.tape.code⟩:cO),(⟨y1.p.AF,y1.p.AH,y1.p.AE,y1.p.AG⟩:AL),y1.AS,y1.Aq⟩:Ai)
 else
  if a1.Op=2 then
   (iJ (⟨(⟨a0.tape.code⟩:cO),(⟨a0.p.AF,a0.p.AH,a0.p.AE,a0.p.AG⟩:AL),a0.AS,a0.Aq⟩:Ai) 2 a1.N 0).bind fun y2=>
   some (⟨(⟨y2.tape.code⟩:cO),(⟨y2.p.AF,y2.p.AH,y2.p.AE,y2.p.AG⟩:AL),y2.AS,y2.Aq⟩:Ai)
  else
   (idx a1.AW 0).bind fun y3=>
   ((mU AA) (⟨(⟨a0.tape.code⟩:cO),(⟨a0.p.AF,a0.p.AH,a0.p.AE,a0.p.AG⟩:AL),a0.AS,a0.Aq⟩:Ai) y3).bind fun y4=>
   (idx a1.AW 1).bind fun y5=>
   ((mU AA) (⟨(⟨y4.tape.code⟩:cO),(⟨y4.p.AF,y4.p.AH,y4.p.AE,y4.p.AG⟩:AL),y4.AS,y4.Aq⟩:Ai) y5).bind fun y6=>
   (aAv a1.Op).bind fun y7=>
   (iJ (⟨(⟨y6.tape.code⟩:cO),(⟨y6.p.AF,y6.p.AH,y6.p.AE,y6.p.AG⟩:AL),y6.AS,y6.Aq⟩:Ai) y7 0 0).bind fun y8=>
   some (⟨(⟨y8.tape.code⟩:cO),(⟨y8.p.AF,y8.p.AH,y8.p.AE,y8.p.AG⟩:AL),y8.AS,y8.Aq⟩:Ai)
theorem aEW:∀ (AA:Nat),(∀ (p0:Nat) (a0:Ai) (a1:Ah) (r:Ai) (H:mU AA a0 a1=some r),FnS Tryz.prog 85 [fEq (.pointer (some ⟨p0,0,none⟩)),fSt cZ a1] [fZ p0 a0] (dA []) (fun _=>[fZ p0 r])):=by
 intro AA
 induction AA with
 | zero=>exact fun p0 a0 a1 r H=>(by rw [mU]at H;cases H)
 | succ AA ih=>
 have ih_code_compiler_exp:=@ih
 refine ?_
 intro p0 a0 a1 r H
 rw [mU]at H
 refine bS Tryz.func85 rfl Tryz.ntmps85 rfl (fun β=>?_)
 refine dN (fun v1 v2=>?_)
 refine aM ?_
 refine bP (fun b1 h1=>?_);subst h1
 refine rc 2 fun _=>?_
 refine Z1 ?_
 refine Tn (cA rfl hh bT) fun b2=>?_
 refine I10 H (fun c1 H=>?_) fun c1 H=>?_
 refine Z1 ?_
 apply bG (ods:=[_,_,_,_,_]) 5 0 4 bF rfl rfl rfl
 refine ND ?_
 refine M5 ?_
 intros
 refine Z1 ?_
 refine aW ?_
 refine bH ?_
 refine bA ?_
 refine bA ?_
 refine cW ?_
 refine bz H fun y1 h2 H=>?_
 refine Tc (lG _ _ _ _ _ _ h2) ?_
 refine dN (fun v3 v4=>?_)
 refine aM ?_
 refine bP (fun b3 h3=>?_);subst h3
 refine rc 2 fun _=>?_
 refine Z2 ?_
 refine bH ?_
 refine aM ?_
 refine aM ?_
 refine cW ?_
 cases H
 refine aF [0] (by decide) ?_
 exact cK (.inr rfl) rfl rfl
 exact fk
 kernel_rfl
 refine I5 H (fun c2 H=>?_) fun c2 H=>?_
 refine Z1 ?_
 apply bG (ods:=[_,_,_,_,_]) 5 0 4 bF rfl rfl rfl
 refine ND ?_
 refine M5 ?_
 intros
 refine Z1 ?_
 refine aW ?_
 refine bH ?_
 refine bA ?_
 refine bA ?_
 refine cW ?_
 refine bz H fun y2 h4 H=>?_
 refine Tc (lG _ _ _ _ _ _ h4) ?_
 refine dN (fun v5 v6=>?_)
 refine aM ?_
 refine bP (fun b4 h5=>?_);subst h5
 refine rc 2 fun _=>?_
 refine Z2 ?_
 refine bH ?_
 refine aM ?_
 refine aM ?_
 refine cW ?_
 cases H
 refine aF [0] (by decide) ?_
 exact cK (.inr rfl) rfl rfl
 exact fk
 kernel_rfl
 refine Z4 ?_
 refine Yo 0 rfl (gY rfl hh (sc rfl) rfl (iK gZ)) ?_
 refine bz H fun y3 h6 H=>?_
 refine Z2 ?_
 refine aW ?_
 refine bH ?_
 refine bA ?_
 refine bA ?_
 refine cW ?_
 refine bz H fun y4 h7 H=>?_
 refine Tc (ih_code_compiler_exp _ _ _ _ h7) ?_
 refine dN (fun v7 v8=>?_)
 refine aM ?_
 refine bP (fun b5 h8=>?_);subst h8
 refine rc 2 fun _=>?_
 refine Z4 ?_
 refine Yo 3 rfl (gY rfl hh (sc rfl) rfl (iK gZ)) ?_
 refine bz H fun y5 h9 H=>?_
 refine Z2 ?_
 refine bH ?_
 refine aM ?_
 refine aM ?_
 refine cW ?_
 refine bz H fun y6 h10 H=>?_
 refine Tc (ih_code_compiler_exp _ _ _ _ h10) ?_
 refine dN (fun v9 v10=>?_)
 refine aM ?_
 refine bP (fun b6 h11=>?_);subst h11
 refine rc 2 fun _=>?_
 refine B1 H fun y7 h12 H=>?_
 apply bG (ods:=[_,_,_,_,_,_]) 6 0 4 bF rfl rfl rfl
 refine ND ?_
 refine M5 ?_
 intros
 refine Nc (aKo _ _ h12) fun _=>?_
 refine Z1 ?_
 refine bH ?_
 refine aM ?_
 refine aM ?_
 refine cW ?_
 refine bz H fun y8 h13 H=>?_
 refine Tc (lG _ _ _ _ _ _ h13) ?_
 refine dN (fun v11 v12=>?_)
 refine aM ?_
 refine bP (fun b7 h14=>?_);subst h14
 refine rc 2 fun _=>?_
 refine Z2 ?_
 refine bH ?_
 refine aM ?_
 refine aM ?_
 refine cW ?_
 cases H
 refine aF [0] (by decide) ?_
 exact cK (.inr rfl) rfl rfl
 exact fk
 kernel_rfl
def kF:Nat->Ai->Int->Option (Ai × Bool)
| 0,_,_=>none
| AA+1,a0,a1=>
 (idx a0.p.AH a1).bind fun y1=>
 (if y1.Op=4 then
  some (true,a0.tape.code,a0.p.AF,a0.p.AH,a0.p.AE,a0.p.AG,a0.AS,a0.Aq)
 else
  if y1.Op=3 then
   (idx y1.AW 1).bind fun y2=>
   ((kF AA) (⟨(⟨a0.tape.code⟩:cO),(⟨a0.p.AF,a0.p.AH,a0.p.AE,a0.p.AG⟩:AL),a0.AS,a0.Aq⟩:Ai) y2).bind fun y3=>
   some (y3.2,y3.1.tape.code,y3.1.p.AF,y3.1.p.AH,y3.1.p.AE,y3.1.p.AG,y3.1.AS,y3.1.Aq)
  else
   some (false,a0.tape.code,a0.p.AF,a0.p.AH,a0.p.AE,a0.p.AG,a0.AS,a0.Aq)).bind fun (x1,x2,x3,x4,x5,x6,x7,x8)=>
 some ((⟨(⟨x2⟩:cO),(⟨x3,x4,x5,x6⟩:AL),x7,x8⟩:Ai),x1)
theorem aK6:∀ (AA:Nat),(∀ (p0:Nat) (a0:Ai) (a1:Int) (r:Ai × Bool) (H:kF AA a0 a1=some r),FnS Tryz.prog 129 [fEq (.pointer (some ⟨p0,0,none⟩)),fI a1] [fZ p0 a0] (aH r.2) (fun _=>[fZ p0 r.1])):=by
 intro AA
 induction AA with
 | zero=>exact fun p0 a0 a1 r H=>(by rw [kF]at H;cases H)
 | succ AA ih=>
 have ih_code_compiler_grows:=@ih
 refine ?_
 intro p0 a0 a1 r H
 rw [kF]at H
 refine bS Tryz.func129 rfl Tryz.ntmps129 rfl (fun β=>?_)
 refine dN (fun v1 v2=>?_)
 refine aM ?_
 refine bP (fun b1 h1=>?_);subst h1
 refine rc 2 fun _=>?_
 refine B10 H fun y1 h2 H=>?_
 refine Z2 ?_
 refine Tn (cF rfl xE rfl) fun b2=>?_
 refine cM (φs':=[fI y1.Op,fI y1.N,fSl cZ y1.Ag,fSl tI y1.AW]) a1W rfl rfl (has rfl) (has rfl) (aI (aG a1W) (aI (aG a1W) (aI (bR) (aI (bR) bM)))) (sz rfl) rfl rfl rfl ?_
 revert H;refine B1z fun o1 H Hr1=>?_
 refine aQ (ι:=Bool × List AI × List ByteArray × List Af × List AN × Int × List Int × aE Int Int × Value × Nat) (fun i=>o1=(i.1,i.2.1,i.2.2.1,i.2.2.2.1,i.2.2.2.2.1,i.2.2.2.2.2.1,i.2.2.2.2.2.2.1,i.2.2.2.2.2.2.2.1)) (fun i=>[(0,fEq (ptr p0)),(4,aH i.1)]) (fun i=>[aA b2 140 [fI y1.Op,fI y1.N,fSl cZ y1.Ag,fSl tI y1.AW],aA p0 103 [fEq i.2.2.2.2.2.2.2.2.1,fSl aK i.2.2.1,fSl aN i.2.2.2.1,fSl aB i.2.2.2.2.1,fI i.2.2.2.2.2.1,fSl tI i.2.2.2.2.2.2.1,fEq (.map (some i.2.2.2.2.2.2.2.2.2))],bE aZ (fun y=>fI y) i.2.2.2.2.2.2.2.2.2 i.2.2.2.2.2.2.2.1,aD i.2.2.2.2.2.2.2.2.1 73 aP i.2.1]) ?_ ?_
 revert H;refine I5z (fun c1 H=>?_) fun c1 H=>?_
 refine Z4 ?_
 refine cT (⟨_,_,_,_,rfl,rfl,rfl,nu⟩) rfl rfl ?_
 refine cT (⟨_,_,_,_,rfl,rfl,rfl,nu⟩) rfl rfl ?_
 refine cT (⟨_,_,_,_,rfl,rfl,rfl,nu⟩) rfl rfl ?_
 refine cT (⟨_,_,_,_,rfl,rfl,rfl,nu⟩) rfl rfl ?_
 refine cT (⟨_,_,_,_,rfl,rfl,rfl,nu⟩) rfl rfl ?_
 refine cT (⟨_,_,_,_,rfl,rfl,rfl,nu⟩) rfl rfl ?_
 refine Z4 ?_
 refine aF [0,2,1,3] (by decide) ?_
 exact Tm ((true,a0.tape.code,a0.p.AF,a0.p.AH,a0.p.AE,a0.p.AG,a0.AS,a0.Aq,v1,b1)) (ij H)
 revert H;refine I4z (fun c2 H=>?_) fun c2 H=>?_
 revert H;refine B3z fun y2 h3 H=>?_
 refine Z2 ?_
 refine aW ?_
 refine bH ?_
 refine bA ?_
 refine bA ?_
 refine cW ?_
 revert H;refine bs fun y3 h4 H=>?_
 refine Tc (ih_code_compiler_grows _ _ _ _ h4) ?_
 refine dN (fun v4 v5=>?_)
 refine aM ?_
 refine bP (fun b4 h5=>?_);subst h5
 refine rc 2 fun _=>?_
 refine Z4 ?_
 refine aF [3,1,0,2] (by decide) ?_
 exact Tm ((y3.2,y3.1.tape.code,y3.1.p.AF,y3.1.p.AH,y3.1.p.AE,y3.1.p.AG,y3.1.AS,y3.1.Aq,v4,b4)) (ij H)
 refine Z10 ?_
 refine aF [0,2,1,3] (by decide) ?_
 exact Tm ((false,a0.tape.code,a0.p.AF,a0.p.AH,a0.p.AE,a0.p.AG,a0.AS,a0.Aq,v1,b1)) (ij H)
 rintro⟨x1,x2,x3,x4,x5,x6,x7,x8,v3,b3⟩ hi;subst o1;replace H:=Hr1;clear Hr1;try dsimp only at H ⊢
 refine rc 3 fun _=>?_
 refine Z1 ?_
 refine aM ?_
 refine bH ?_
 refine bA ?_
 refine bA ?_
 refine cW ?_
 cases H
 refine aF [0] (by decide) ?_
 exact To
def tG (w0:Ai) (w1:Int):Option (Ai):=
 (idx w0.tape.code w1).bind fun y1=>
 some (⟨(⟨w0.tape.code.set w1.toNat ({ y1 with A:=(w0.tape.code.length:Int) })⟩:cO),(⟨w0.p.AF,w0.p.AH,w0.p.AE,w0.p.AG⟩:AL),w0.AS,w0.Aq⟩:Ai)
theorem aG6 (q0:Nat) (w0:Ai) (w1:Int) (r:Ai) (H:tG w0 w1=some r):FnS Tryz.prog 130 [aU tRaw (.pointer (some ⟨q0,0,none⟩)),aU tI w1] [fZ q0 w0] (dA []) (fun _=>[fZ q0 r]):=by
 unfold tG at H
 refine bS Tryz.func130 rfl Tryz.ntmps130 rfl (fun β=>?_)
 refine dN (fun v1 v2=>?_)
 refine aM ?_
 refine bP (fun b1 h1=>?_);subst h1
 refine rc 2 fun _=>?_
 refine bz H fun y1 h2 H=>?_
 apply bG (ods:=[_,_,_,_,_,_,_,_,_,_,_,_,_]) 13 0 3 bF rfl rfl rfl
 refine ND ?_
 refine My (aER rfl hh (sc rfl) rfl mW) fun _=>?_
 refine M4 ?_
 intros
 refine My (aER rfl hh (sc rfl) rfl mW) fun _=>?_
 refine M5 ?_
 intros
 refine My (aA6 1 rfl hh (fa rfl) rfl) fun _=>?_
 refine tQ (od:=odC [2] true (eG) [aD v1 73 aP (w0.tape.code.set w1.toNat ({ y1 with A:=(w0.tape.code.length:Int) }))]) (p:=2) (z':={ y1 with A:=(w0.tape.code.length:Int) }) rfl (fun _=>rfl) (fun _=>rfl) a1W rfl rfl rfl rfl (has rfl) (has rfl) (aG a1W) (sz rfl) (idx_get h2) rfl rfl (fun _=>?_)
 refine Z2 ?_
 refine bH ?_
 refine aM ?_
 refine aM ?_
 refine cW ?_
 cases H
 exact cK (.inr rfl) rfl rfl
 exact fk
 kernel_rfl
def tW (a0:Ai) (a1:Int):Option (Ai × Int):=
 (iJ (⟨(⟨a0.tape.code⟩:cO),(⟨a0.p.AF,a0.p.AH,a0.p.AE,a0.p.AG⟩:AL),a0.AS,a0.Aq⟩:Ai) a1 0 0).bind fun y1=>
 some ((⟨(⟨y1.tape.code⟩:cO),(⟨y1.p.AF,y1.p.AH,y1.p.AE,y1.p.AG⟩:AL),y1.AS,y1.Aq⟩:Ai),(a0.tape.code.length:Int))
theorem aEd (p0:Nat) (a0:Ai) (a1:Int) (r:Ai × Int) (H:tW a0 a1=some r):FnS Tryz.prog 87 [fEq (.pointer (some ⟨p0,0,none⟩)),fI a1] [fZ p0 a0] (dG 130 [aU tRaw (.pointer (some ⟨p0,0,none⟩)),aU tI r.2]) (fun _=>[fZ p0 r.1]):=by
 unfold tW at H
 refine bS Tryz.func87 rfl Tryz.ntmps87 rfl (fun β=>?_)
 refine dN (fun v1 v2=>?_)
 refine aM ?_
 refine bP (fun b1 h1=>?_);subst h1
 refine rc 2 fun _=>?_
 refine Z1 ?_
 refine Tn (cA rfl (has rfl) (cI (aG a1W))) fun b2=>?_
 refine Z8 ?_
 refine Tn (cF rfl sM rfl) fun b3=>?_
 refine cQ (φs':=[fI (a0.tape.code.length:Int)]) a1W rfl rfl (has rfl) (has rfl) (aG a1W) (sz rfl) rfl rfl ?_
 refine Z4 ?_
 refine aM ?_
 refine bH ?_
 refine aO ?_
 refine aO ?_
 refine cW ?_
 refine bz H fun y1 h2 H=>?_
 refine Tc (lG _ _ _ _ _ _ h2) ?_
 refine dN (fun v3 v4=>?_)
 refine aM ?_
 refine bP (fun b4 h3=>?_);subst h3
 refine rc 2 fun _=>?_
 refine Z2 ?_
 refine aO ?_
 refine dI (φ:=aU tRaw (ptr p0)) (v:=ptr b2) [2] (iH (aJ.cons (eZ a1W) aJ.nil)) fz ?_
 refine dH ?_
 refine bA ?_
 refine dI (φ:=aU tI (a0.tape.code.length:Int)) (v:=ptr b3) [5] (iH aJ.rfl) fz ?_
 refine dH ?_
 refine Yy (oN rfl (aS.cons hh (aS.cons hh aS.nil))) ?_
 refine Z3 ?_
 refine bH ?_
 refine aM ?_
 refine aM ?_
 refine cW ?_
 cases H
 exact To
def qX (AA:Nat) (y1:Af):Nat->Int->(List AI)->(List ByteArray)->(List Af)->(List AN)->Int->(List Int)->(aE Int Int)->Option (List AI × List ByteArray × List Af × List AN × Int × List Int × aE Int Int)
| 0,_,_,_,_,_,_,_,_=>none
| k+1,x16,x17,x18,x19,x20,x21,x22,x23=>
 if x16<(y1.Ag.length:Int)then
  (idx y1.Ag x16).bind fun y2=>
  (mU AA (⟨(⟨x17⟩:cO),(⟨x18,x19,x20,x21⟩:AL),x22,x23⟩:Ai) (⟨y2.Op,y2.N,y2.AW⟩:Ah)).bind fun y3=>
  (chk (x16+1)).bind fun z1=>
  qX AA y1 k z1 y3.tape.code y3.p.AF y3.p.AH y3.p.AE y3.p.AG y3.AS y3.Aq
 else
  some (x17,x18,x19,x20,x21,x22,x23)
mutual
def gM:Nat->Ai->Int->Option (Ai)
| 0,_,_=>none
| AA+1,a0,a1=>
 (idx a0.p.AH a1).bind fun y1=>
 if y1.Op=2 then
  (qX AA y1 AA 0 a0.tape.code a0.p.AF a0.p.AH a0.p.AE a0.p.AG a0.AS a0.Aq).bind fun (x1,x2,x3,x4,x5,x6,x7)=>
  (iJ (⟨(⟨x1⟩:cO),(⟨x2,x3,x4,x5⟩:AL),x6,x7⟩:Ai) 8 y1.N (y1.Ag.length:Int)).bind fun y4=>
  some (⟨(⟨y4.tape.code⟩:cO),(⟨y4.p.AF,y4.p.AH,y4.p.AE,y4.p.AG⟩:AL),y4.AS,y4.Aq⟩:Ai)
 else
  if y1.Op=3 then
   (idx y1.AW 0).bind fun y5=>
   (idx a0.AS a1).bind fun y6=>
   ((pM AA) (⟨(⟨a0.tape.code⟩:cO),(⟨a0.p.AF,a0.p.AH,a0.p.AE,a0.p.AG⟩:AL),a0.AS,a0.Aq⟩:Ai) y5 y6).bind fun y7=>
   (idx y1.AW 1).bind fun y8=>
   ((gM AA) (⟨(⟨y7.tape.code⟩:cO),(⟨y7.p.AF,y7.p.AH,y7.p.AE,y7.p.AG⟩:AL),y7.AS,y7.Aq⟩:Ai) y8).bind fun y9=>
   some (⟨(⟨y9.tape.code⟩:cO),(⟨y9.p.AF,y9.p.AH,y9.p.AE,y9.p.AG⟩:AL),y9.AS,y9.Aq⟩:Ai)
  else
   if y1.Op=4 then
    (iJ (⟨(⟨a0.tape.code⟩:cO),(⟨a0.p.AF,a0.p.AH,a0.p.AE,a0.p.AG⟩:AL),a0.AS,a0.Aq⟩:Ai) 11 y1.N 0).bind fun y10=>
    (idx y1.AW 0).bind fun y11=>
    ((gM AA) (⟨(⟨y10.tape.code⟩:cO),(⟨y10.p.AF,y10.p.AH,y10.p.AE,y10.p.AG⟩:AL),y10.AS,y10.Aq⟩:Ai) y11).bind fun y12=>
    some (⟨(⟨y12.tape.code⟩:cO),(⟨y12.p.AF,y12.p.AH,y12.p.AE,y12.p.AG⟩:AL),y12.AS,y12.Aq⟩:Ai)
   else
    if y1.Op=5 then
     (idx y1.Ag 0).bind fun y13=>
     (mU AA (⟨(⟨a0.tape.code⟩:cO),(⟨a0.p.AF,a0.p.AH,a0.p.AE,a0.p.AG⟩:AL),a0.AS,a0.Aq⟩:Ai) y13).bind fun y14=>
     (tW (⟨(⟨y14.tape.code⟩:cO),(⟨y14.p.AF,y14.p.AH,y14.p.AE,y14.p.AG⟩:AL),y14.AS,y14.Aq⟩:Ai) 9).bind fun y15=>
     (idx y1.AW 0).bind fun y16=>
     (idx y15.1.AS a1).bind fun y17=>
     ((pM AA) (⟨(⟨y15.1.tape.code⟩:cO),(⟨y15.1.p.AF,y15.1.p.AH,y15.1.p.AE,y15.1.p.AG⟩:AL),y15.1.AS,y15.1.Aq⟩:Ai) y16 y17).bind fun y18=>
     (tW (⟨(⟨y18.tape.code⟩:cO),(⟨y18.p.AF,y18.p.AH,y18.p.AE,y18.p.AG⟩:AL),y18.AS,y18.Aq⟩:Ai) 10).bind fun y19=>
     (tG (⟨(⟨y19.1.tape.code⟩:cO),(⟨y19.1.p.AF,y19.1.p.AH,y19.1.p.AE,y19.1.p.AG⟩:AL),y19.1.AS,y19.1.Aq⟩:Ai) y15.2).bind fun y20=>
     (idx y1.AW 1).bind fun y21=>
     (idx y20.AS a1).bind fun y22=>
     ((pM AA) (⟨(⟨y20.tape.code⟩:cO),(⟨y20.p.AF,y20.p.AH,y20.p.AE,y20.p.AG⟩:AL),y20.AS,y20.Aq⟩:Ai) y21 y22).bind fun y23=>
     (tG (⟨(⟨y23.tape.code⟩:cO),(⟨y23.p.AF,y23.p.AH,y23.p.AE,y23.p.AG⟩:AL),y23.AS,y23.Aq⟩:Ai) y19.2).bind fun y24=>
     some (⟨(⟨y24.tape.code⟩:cO),(⟨y24.p.AF,y24.p.AH,y24.p.AE,y24.p.AG⟩:AL),y24.AS,y24.Aq⟩:Ai)
    else
     if y1.Op=6 then
      (idx y1.AW 0).bind fun y25=>
      (iJ (⟨(⟨a0.tape.code⟩:cO),(⟨a0.p.AF,a0.p.AH,a0.p.AE,a0.p.AG⟩:AL),a0.AS,a0.Aq⟩:Ai) 13 y1.N y25).bind fun y26=>
      some (⟨(⟨y26.tape.code⟩:cO),(⟨y26.p.AF,y26.p.AH,y26.p.AE,y26.p.AG⟩:AL),y26.AS,y26.Aq⟩:Ai)
     else
      if y1.Op=8 then
       (idx y1.AW 0).bind fun y27=>
       (iJ (⟨(⟨a0.tape.code⟩:cO),(⟨a0.p.AF,a0.p.AH,a0.p.AE,a0.p.AG⟩:AL),a0.AS,a0.Aq⟩:Ai) 15 y1.N y27).bind fun y28=>
       some (⟨(⟨y28.tape.code⟩:cO),(⟨y28.p.AF,y28.p.AH,y28.p.AE,y28.p.AG⟩:AL),y28.AS,y28.Aq⟩:Ai)
      else
       if y1.Op=7 then
        (iJ (⟨(⟨a0.tape.code⟩:cO),(⟨a0.p.AF,a0.p.AH,a0.p.AE,a0.p.AG⟩:AL),a0.AS,a0.Aq⟩:Ai) 14 0 0).bind fun y29=>
        some (⟨(⟨y29.tape.code⟩:cO),(⟨y29.p.AF,y29.p.AH,y29.p.AE,y29.p.AG⟩:AL),y29.AS,y29.Aq⟩:Ai)
       else
        some (⟨(⟨a0.tape.code⟩:cO),(⟨a0.p.AF,a0.p.AH,a0.p.AE,a0.p.AG⟩:AL),a0.AS,a0.Aq⟩:Ai)
def pM:Nat->Ai->Int->Int->Option (Ai)
| 0,_,_,_=>none
| AA+1,a0,a1,a2=>
 ((gM AA) (⟨(⟨a0.tape.code⟩:cO),(⟨a0.p.AF,a0.p.AH,a0.p.AE,a0.p.AG⟩:AL),a0.AS,a0.Aq⟩:Ai) a1).bind fun y1=>
 (kF AA (⟨(⟨y1.tape.code⟩:cO),(⟨y1.p.AF,y1.p.AH,y1.p.AE,y1.p.AG⟩:AL),y1.AS,y1.Aq⟩:Ai) a1).bind fun y2=>
 bif y2.2 then
  (iJ (⟨(⟨y2.1.tape.code⟩:cO),(⟨y2.1.p.AF,y2.1.p.AH,y2.1.p.AE,y2.1.p.AG⟩:AL),y2.1.AS,y2.1.Aq⟩:Ai) 12 a2 0).bind fun y3=>
  some (⟨(⟨y3.tape.code⟩:cO),(⟨y3.p.AF,y3.p.AH,y3.p.AE,y3.p.AG⟩:AL),y3.AS,y3.Aq⟩:Ai)
 else
  some (⟨(⟨y2.1.tape.code⟩:cO),(⟨y2.1.p.AF,y2.1.p.AH,y2.1.p.AE,y2.1.p.AG⟩:AL),y2.1.AS,y2.1.Aq⟩:Ai)
end
theorem aKI:∀ (AA:Nat),(∀ (p0:Nat) (a0:Ai) (a1:Int) (r:Ai) (H:gM AA a0 a1=some r),FnS Tryz.prog 37 [fEq (.pointer (some ⟨p0,0,none⟩)),fI a1] [fZ p0 a0] (dA []) (fun _=>[fZ p0 r]))/\(∀ (p0:Nat) (a0:Ai) (a1:Int) (a2:Int) (r:Ai) (H:pM AA a0 a1 a2=some r),FnS Tryz.prog 86 [fEq (.pointer (some ⟨p0,0,none⟩)),fI a1,fI a2] [fZ p0 a0] (dA []) (fun _=>[fZ p0 r])):=by
 intro AA
 induction AA with
 | zero=>exact⟨fun p0 a0 a1 r H=>(by rw [gM]at H;cases H),fun p0 a0 a1 a2 r H=>(by rw [pM]at H;cases H)⟩
 | succ AA ih=>
 obtain⟨ih_code_compiler_node,ih_code_compiler_kept⟩:=@ih
 refine⟨?_,?_⟩
 intro p0 a0 a1 r H
 rw [gM]at H
 refine bS Tryz.func37 rfl Tryz.ntmps37 rfl (fun β=>?_)
 refine dN (fun v1 v2=>?_)
 refine aM ?_
 refine bP (fun b1 h1=>?_);subst h1
 refine rc 2 fun hc_v1=>?_
 refine B7 H fun y1 h2 H=>?_
 refine Z2 ?_
 refine Tn (cF rfl xE rfl) fun b2=>?_
 refine cM (φs':=[fI y1.Op,fI y1.N,fSl cZ y1.Ag,fSl tI y1.AW]) a1W rfl rfl (has rfl) (has rfl) (aI (aG a1W) (aI (aG a1W) (aI (bR) (aI (bR) bM)))) (sz rfl) rfl rfl rfl ?_
 refine I10 H (fun c1 H=>?_) fun c1 H=>?_
 revert H;refine B1z fun o1 H Hr1=>?_
 refine aQ (ι:=List AI × List ByteArray × List Af × List AN × Int × List Int × aE Int Int × Value × Nat) (fun i=>o1=(i.1,i.2.1,i.2.2.1,i.2.2.2.1,i.2.2.2.2.1,i.2.2.2.2.2.1,i.2.2.2.2.2.2.1)) (fun i=>[(0,fEq (ptr p0)),(4,fEq (ptr b2))]) (fun i=>[aA b2 140 [fI y1.Op,fI y1.N,fSl cZ y1.Ag,fSl tI y1.AW],aA p0 103 [fEq i.2.2.2.2.2.2.2.1,fSl aK i.2.1,fSl aN i.2.2.1,fSl aB i.2.2.2.1,fI i.2.2.2.2.1,fSl tI i.2.2.2.2.2.1,fEq (.map (some i.2.2.2.2.2.2.2.2))],bE aZ (fun y=>fI y) i.2.2.2.2.2.2.2.2 i.2.2.2.2.2.2.1,aD i.2.2.2.2.2.2.2.1 73 aP i.1]) ?_ ?_
 refine Z7 ?_
 refine aF [0,2,1,3] (by decide) ?_
 refine Th (ι:=Int × List AI × List ByteArray × List Af × List AN × Int × List Int × aE Int Int × Value × Nat) (fun i=>qX AA y1 i.1 i.2.1 i.2.2.1 i.2.2.2.1 i.2.2.2.2.1 i.2.2.2.2.2.1 i.2.2.2.2.2.2.1 i.2.2.2.2.2.2.2.1 i.2.2.2.2.2.2.2.2.1=_) (fun i=>[(0,fEq (ptr p0)),(4,fEq (ptr b2)),(22,fSl cZ y1.Ag),(23,fI (y1.Ag.length:Int)),(24,fI i.2.1)]) (fun i=>[aA b2 140 [fI y1.Op,fI y1.N,fSl cZ y1.Ag,fSl tI y1.AW],aA p0 103 [fEq i.2.2.2.2.2.2.2.2.2.1,fSl aK i.2.2.2.1,fSl aN i.2.2.2.2.1,fSl aB i.2.2.2.2.2.1,fI i.2.2.2.2.2.2.1,fSl tI i.2.2.2.2.2.2.2.1,fEq (.map (some i.2.2.2.2.2.2.2.2.2.2))],bE aZ (fun y=>fI y) i.2.2.2.2.2.2.2.2.2.2 i.2.2.2.2.2.2.2.2.1,aD i.2.2.2.2.2.2.2.2.2.1 73 aP i.2.2.1]) (AA,0,a0.tape.code,a0.p.AF,a0.p.AH,a0.p.AE,a0.p.AG,a0.AS,a0.Aq,v1,b1) H (fun _ h=>nomatch h) ?_
 clear H;rintro k1 ⟨x16,x17,x18,x19,x20,x21,x22,x23,v5,b5⟩ H;dsimp only at H ⊢;rw [qX]at H
 refine rc 3 fun hc_v5=>?_
 refine Z3 ?_
 refine aL ?_
 revert H;refine is (fun c2 H=>?_) fun c2 H=>?_
 refine Z3 ?_
 refine aL ?_
 revert H;refine B2z fun y2 h3 H=>?_
 refine Z2 ?_
 refine Tn (cF rfl aDl rfl) fun b6=>?_
 refine cM (φs':=[fI y2.Op,fI y2.N,gC y2.AW]) a1W rfl rfl (has rfl) (has rfl) (aI (aG a1W) (aI (aG a1W) (aI (aBi) bM))) (sz rfl) rfl rfl rfl ?_
 refine Z4 ?_
 refine bA ?_
 refine bH ?_
 refine aO ?_
 refine aO ?_
 refine cW ?_
 revert H;refine bs fun y3 h4 H=>?_
 refine Tc (aEW _ _ _ _ _ h4) ?_
 refine dN (fun v6 v7=>?_)
 refine aM ?_
 refine bP (fun b7 h5=>?_);subst h5
 refine rc 2 fun _=>?_
 revert H;refine B4z fun z1 h6 H=>?_
 refine Z3 ?_
 refine aF [4,1,0,2] (by decide) ?_
 exact Tm ((k1,z1,y3.tape.code,y3.p.AF,y3.p.AH,y3.p.AE,y3.p.AG,y3.AS,y3.Aq,v6,b7)) ⟨H,ls⟩
 refine Z6 ?_
 exact Tm ((x17,x18,x19,x20,x21,x22,x23,v5,b5)) (ij H)
 rintro⟨x1,x2,x3,x4,x5,x6,x7,v3,b3⟩ hi;subst o1;replace H:=Hr1;clear Hr1;try dsimp only at H ⊢
 refine rc 3 fun hc_v3=>?_
 apply bG (ods:=[_,_,_,_,_,_,_,_]) 8 0 4 bF rfl rfl rfl
 refine ND ?_
 refine M8 ?_
 intros
 refine Z1 ?_
 refine aM ?_
 refine bH ?_
 refine bA ?_
 refine bA ?_
 refine cW ?_
 refine bz H fun y4 h7 H=>?_
 refine Tc (lG _ _ _ _ _ _ h7) ?_
 refine dN (fun v8 v9=>?_)
 refine aM ?_
 refine bP (fun b8 h8=>?_);subst h8
 refine rc 2 fun _=>?_
 refine Z2 ?_
 refine bH ?_
 refine aM ?_
 refine aM ?_
 refine cW ?_
 cases H
 refine aF [0] (by decide) ?_
 exact cK (.inr rfl) rfl rfl
 exact fk
 kernel_rfl
 refine I5 H (fun c3 H=>?_) fun c3 H=>?_
 refine Z1 ?_
 refine aL ?_
 refine bz H fun y5 h9 H=>?_
 refine bz H fun y6 h10 H=>?_
 apply bG (ods:=[_,_,_,_,_,_,_,_,_,_,_,_]) 12 0 4 bF rfl rfl rfl
 refine ND ?_
 refine M3 ?_
 intros
 refine My (eH rfl hh hh (el rfl) h9) fun _=>?_
 refine M8 ?_
 intros
 refine Z1 ?_
 refine aW ?_
 refine bH ?_
 refine bA ?_
 refine bA ?_
 refine cW ?_
 refine bz H fun y7 h11 H=>?_
 refine Tc (ih_code_compiler_kept _ _ _ _ _ h11) ?_
 refine dN (fun v10 v11=>?_)
 refine aM ?_
 refine bP (fun b9 h12=>?_);subst h12
 refine rc 2 fun _=>?_
 refine B5 H fun y8 h13 H=>?_
 refine Yy (eH rfl hh hh (el rfl) h13) ?_
 refine Z1 ?_
 refine bH ?_
 refine aM ?_
 refine aM ?_
 refine cW ?_
 refine bz H fun y9 h14 H=>?_
 refine Tc (ih_code_compiler_node _ _ _ _ h14) ?_
 refine dN (fun v12 v13=>?_)
 refine aM ?_
 refine bP (fun b10 h15=>?_);subst h15
 refine rc 2 fun _=>?_
 refine Z2 ?_
 refine bH ?_
 refine aM ?_
 refine aM ?_
 refine cW ?_
 cases H
 refine aF [0] (by decide) ?_
 exact cK (.inr rfl) rfl rfl
 exact fk
 kernel_rfl
 refine I5 H (fun c4 H=>?_) fun c4 H=>?_
 refine Z1 ?_
 refine aL ?_
 apply bG (ods:=[_,_,_,_,_]) 5 0 4 bF rfl rfl rfl
 refine ND ?_
 refine M5 ?_
 intros
 refine Z1 ?_
 refine aW ?_
 refine bH ?_
 refine bA ?_
 refine bA ?_
 refine cW ?_
 refine bz H fun y10 h16 H=>?_
 refine Tc (lG _ _ _ _ _ _ h16) ?_
 refine dN (fun v14 v15=>?_)
 refine aM ?_
 refine bP (fun b11 h17=>?_);subst h17
 refine rc 2 fun _=>?_
 refine B5 H fun y11 h18 H=>?_
 refine Yy (eH rfl hh hh (el rfl) h18) ?_
 refine Z1 ?_
 refine bH ?_
 refine aM ?_
 refine aM ?_
 refine cW ?_
 refine bz H fun y12 h19 H=>?_
 refine Tc (ih_code_compiler_node _ _ _ _ h19) ?_
 refine dN (fun v16 v17=>?_)
 refine aM ?_
 refine bP (fun b12 h20=>?_);subst h20
 refine rc 2 fun _=>?_
 refine Z2 ?_
 refine bH ?_
 refine aM ?_
 refine aM ?_
 refine cW ?_
 cases H
 refine aF [0] (by decide) ?_
 exact cK (.inr rfl) rfl rfl
 exact fk
 kernel_rfl
 refine I5 H (fun c5 H=>?_) fun c5 H=>?_
 refine B5 H fun y13 h21 H=>?_
 refine Z2 ?_
 refine aW ?_
 refine bH ?_
 refine bA ?_
 refine bA ?_
 refine cW ?_
 refine bz H fun y14 h22 H=>?_
 refine Tc (aEW _ _ _ _ _ h22) ?_
 refine dN (fun v18 v19=>?_)
 refine aM ?_
 refine bP (fun b13 h23=>?_);subst h23
 refine rc 2 fun _=>?_
 refine Z5 ?_
 refine bH ?_
 refine aM ?_
 refine aM ?_
 refine cW ?_
 refine bz H fun y15 h24 H=>?_
 refine Tc (aEd _ _ _ _ h24) ?_
 refine dN (fun v20 v21=>?_)
 refine aM ?_
 refine bP (fun b14 h25=>?_);subst h25
 refine rc 2 fun _=>?_
 refine Z2 ?_
 refine aL ?_
 refine bz H fun y16 h26 H=>?_
 refine bz H fun y17 h27 H=>?_
 apply bG (ods:=[_,_,_,_,_,_,_,_,_,_,_,_]) 12 0 4 bF rfl rfl rfl
 refine ND ?_
 refine M3 ?_
 intros
 refine My (eH rfl hh hh (el rfl) h26) fun _=>?_
 refine M8 ?_
 intros
 refine Z1 ?_
 refine bH ?_
 refine aM ?_
 refine aM ?_
 refine cW ?_
 refine bz H fun y18 h28 H=>?_
 refine Tc (ih_code_compiler_kept _ _ _ _ _ h28) ?_
 refine dN (fun v22 v23=>?_)
 refine aM ?_
 refine bP (fun b15 h29=>?_);subst h29
 refine rc 2 fun _=>?_
 refine Z5 ?_
 refine bH ?_
 refine aM ?_
 refine aM ?_
 refine cW ?_
 refine bz H fun y19 h30 H=>?_
 refine Tc (aEd _ _ _ _ h30) ?_
 refine dN (fun v24 v25=>?_)
 refine aM ?_
 refine bP (fun b16 h31=>?_);subst h31
 refine rc 2 fun _=>?_
 refine Z4 ?_
 refine bH ?_
 refine aM ?_
 refine aM ?_
 refine cW ?_
 refine bz H fun y20 h32 H=>?_
 refine iI a1W rfl rfl rfl (has rfl) aS.nil rfl (cb rfl) (aG6 p0 y19.1 y15.2 y20 h32) rfl ?_
 refine dN (fun v26 v27=>?_)
 refine aM ?_
 refine bP (fun b17 h33=>?_);subst h33
 refine rc 2 fun _=>?_
 refine Z1 ?_
 refine aL ?_
 refine bz H fun y21 h34 H=>?_
 refine bz H fun y22 h35 H=>?_
 apply bG (ods:=[_,_,_,_,_,_,_,_,_,_,_,_]) 12 0 4 bF rfl rfl rfl
 refine ND ?_
 refine M8 ?_
 intros
 refine M4 ?_
 intros
 refine Z1 ?_
 refine bH ?_
 refine aM ?_
 refine aM ?_
 refine cW ?_
 refine bz H fun y23 h36 H=>?_
 refine Tc (ih_code_compiler_kept _ _ _ _ _ h36) ?_
 refine dN (fun v28 v29=>?_)
 refine aM ?_
 refine bP (fun b18 h37=>?_);subst h37
 refine rc 2 fun _=>?_
 refine Z3 ?_
 refine bH ?_
 refine aM ?_
 refine aM ?_
 refine cW ?_
 refine bz H fun y24 h38 H=>?_
 refine iI a1W rfl rfl rfl (has rfl) aS.nil rfl (cb rfl) (aG6 p0 y23 y19.2 y24 h38) rfl ?_
 refine dN (fun v30 v31=>?_)
 refine aM ?_
 refine bP (fun b19 h39=>?_);subst h39
 refine rc 2 fun _=>?_
 refine Z2 ?_
 refine bH ?_
 refine aM ?_
 refine aM ?_
 refine cW ?_
 cases H
 refine aF [0] (by decide) ?_
 exact cK (.inr rfl) rfl rfl
 exact fk
 kernel_rfl
 exact fk
 kernel_rfl
 refine I5 H (fun c6 H=>?_) fun c6 H=>?_
 refine B1 H fun y25 h40 H=>?_
 apply bG (ods:=[_,_,_,_,_,_,_,_,_]) 9 0 4 bF rfl rfl rfl
 refine ND ?_
 refine M7 ?_
 intros
 refine My (eH rfl hh hh (el rfl) h40) fun _=>?_
 refine M1 ?_
 intros
 refine Z1 ?_
 refine aW ?_
 refine bH ?_
 refine bA ?_
 refine bA ?_
 refine cW ?_
 refine bz H fun y26 h41 H=>?_
 refine Tc (lG _ _ _ _ _ _ h41) ?_
 refine dN (fun v32 v33=>?_)
 refine aM ?_
 refine bP (fun b20 h42=>?_);subst h42
 refine rc 2 fun _=>?_
 refine Z2 ?_
 refine bH ?_
 refine aM ?_
 refine aM ?_
 refine cW ?_
 cases H
 refine aF [0] (by decide) ?_
 exact cK (.inr rfl) rfl rfl
 exact fk
 kernel_rfl
 refine I5 H (fun c7 H=>?_) fun c7 H=>?_
 refine B1 H fun y27 h43 H=>?_
 apply bG (ods:=[_,_,_,_,_,_,_,_,_]) 9 0 4 bF rfl rfl rfl
 refine ND ?_
 refine M8 ?_
 intros
 refine M1 ?_
 intros
 refine Z1 ?_
 refine aW ?_
 refine bH ?_
 refine bA ?_
 refine bA ?_
 refine cW ?_
 refine bz H fun y28 h44 H=>?_
 refine Tc (lG _ _ _ _ _ _ h44) ?_
 refine dN (fun v34 v35=>?_)
 refine aM ?_
 refine bP (fun b21 h45=>?_);subst h45
 refine rc 2 fun _=>?_
 refine Z2 ?_
 refine bH ?_
 refine aM ?_
 refine aM ?_
 refine cW ?_
 cases H
 refine aF [0] (by decide) ?_
 exact cK (.inr rfl) rfl rfl
 exact fk
 kernel_rfl
 refine I5 H (fun c8 H=>?_) fun c8 H=>?_
 refine Z5 ?_
 refine aW ?_
 refine bH ?_
 refine bA ?_
 refine bA ?_
 refine cW ?_
 refine bz H fun y29 h46 H=>?_
 refine Tc (lG _ _ _ _ _ _ h46) ?_
 refine dN (fun v36 v37=>?_)
 refine aM ?_
 refine bP (fun b22 h47=>?_);subst h47
 refine rc 2 fun _=>?_
 refine Z2 ?_
 refine bH ?_
 refine aM ?_
 refine aM ?_
 refine cW ?_
 cases H
 refine aF [0] (by decide) ?_
 exact cK (.inr rfl) rfl rfl
 refine Z3 ?_
 refine aW ?_
 refine bH ?_
 refine bA ?_
 refine bA ?_
 refine cW ?_
 cases H
 refine aF [0] (by decide) ?_
 exact cK (.inr rfl) rfl rfl
 intro p0 a0 a1 a2 r H
 rw [pM]at H
 refine bS Tryz.func86 rfl Tryz.ntmps86 rfl (fun β=>?_)
 refine dN (fun v1 v2=>?_)
 refine aM ?_
 refine bP (fun b1 h1=>?_);subst h1
 refine rc 2 fun hc_v1=>?_
 refine Z3 ?_
 refine bH ?_
 refine aM ?_
 refine aM ?_
 refine cW ?_
 refine bz H fun y1 h2 H=>?_
 refine Tc (ih_code_compiler_node _ _ _ _ h2) ?_
 refine dN (fun v3 v4=>?_)
 refine aM ?_
 refine bP (fun b2 h3=>?_);subst h3
 refine rc 2 fun hc_v3=>?_
 refine Z4 ?_
 refine bH ?_
 refine aM ?_
 refine aM ?_
 refine cW ?_
 refine bz H fun y2 h4 H=>?_
 refine Tc (aK6 _ _ _ _ _ h4) ?_
 refine dN (fun v5 v6=>?_)
 refine aM ?_
 refine bP (fun b3 h5=>?_);subst h5
 refine rc 2 fun hc_v5=>?_
 refine Z1 ?_
 refine cz H (fun c1 H=>?_) fun c1 H=>?_
 refine Z6 ?_
 refine bH ?_
 refine aM ?_
 refine aM ?_
 refine cW ?_
 refine bz H fun y3 h6 H=>?_
 refine Tc (lG _ _ _ _ _ _ h6) ?_
 refine dN (fun v7 v8=>?_)
 refine aM ?_
 refine bP (fun b4 h7=>?_);subst h7
 refine rc 2 fun _=>?_
 refine Z1 ?_
 refine bH ?_
 refine aM ?_
 refine aM ?_
 refine cW ?_
 cases H
 exact cK (.inr rfl) rfl rfl
 refine Z2 ?_
 refine bH ?_
 refine aM ?_
 refine aM ?_
 refine cW ?_
 cases H
 exact cK (.inr rfl) rfl rfl
theorem aKV (AA:Nat) (p0:Nat) (a0:Ai) (a1:Int) (r:Ai) (H:gM AA a0 a1=some r):FnS Tryz.prog 37 [fEq (.pointer (some ⟨p0,0,none⟩)),fI a1] [fZ p0 a0] (dA []) (fun _=>[fZ p0 r]):=(aKI AA).1 p0 a0 a1 r H
def vW (a0:List Ar):Option (List Ar):=
 (eP (([]:List Ar)++a0)).bind fun z1=>
 some z1
theorem aJJ  (a0:List Ar) (r:List Ar) (H:vW a0=some r):FnS Tryz.prog 40 [fSl bC a0] [] (fSl bC r) (fun _=>[]):=by
 unfold vW at H
 refine bS Tryz.func40 rfl Tryz.ntmps40 rfl (fun β=>?_)
 refine Z3 ?_
 refine aL ?_
 refine Z2 ?_
 refine Yy (aEA rfl hh (us rfl)) ?_
 refine Z1 ?_
 refine aHg (has rfl) (fun hx=>?_) ?_
 replace H:some []=some r:=by subst hx;exact H
 refine Z4 ?_
 cases H
 exact mX rfl (nV rfl fF) rfl
 refine Z3 ?_
 refine Tn (gI (t:=bC) (xs:=([]:List Ar)) rfl (et rfl) cE.nil rfl rfl rfl) fun b1=>?_
 generalize (Value.slice (some ⟨b1,0,none⟩) _ _)=v1
 refine rc 0 fun _=>?_
 refine B1 H fun z1 h1 H=>?_
 refine aAt (ys:=a0) a1W rfl rfl rfl (has rfl) (has rfl) (et rfl) rfl h1 (fun v2=>?_)
 refine rc 0 fun _=>?_
 refine Z3 ?_
 refine dI (φ:=fSl bC z1) (v:=v2) [2,7] eT fz ?_
 refine dH ?_
 cases H
 exact To
open Go.SX Go.SW Go.Dt
def sP (AA:Nat) (y2:List Int):Nat->Int->(List AI)->(List ByteArray)->(List Af)->(List AN)->Int->(List Int)->(aE Int Int)->Option (List AI × List ByteArray × List Af × List AN × Int × List Int × aE Int Int)
| 0,_,_,_,_,_,_,_,_=>none
| k+1,x16,x17,x18,x19,x20,x21,x22,x23=>
 if x16<(y2.length:Int)then
  (idx y2 x16).bind fun y3=>
  (gM AA (⟨(⟨x17⟩:cO),(⟨x18,x19,x20,x21⟩:AL),x22,aE.upd x23 y3 (x17.length:Int)⟩:Ai) y3).bind fun y4=>
  (iJ (⟨(⟨y4.tape.code⟩:cO),(⟨y4.p.AF,y4.p.AH,y4.p.AE,y4.p.AG⟩:AL),y4.AS,y4.Aq⟩:Ai) 16 0 0).bind fun y5=>
  (chk (x16+1)).bind fun z1=>
  sP AA y2 k z1 y5.tape.code y5.p.AF y5.p.AH y5.p.AE y5.p.AG y5.AS y5.Aq
 else
  some (x17,x18,x19,x20,x21,x22,x23)
def rL (x1:List AI) (x7:aE Int Int):Nat->Int->(List AI)->Option (List AI)
| 0,_,_=>none
| k+1,x27,x28=>
 if x27<(x1.length:Int)then
  ((idx x28 x27).bind fun y6=>
  (oM y6.Op).bind fun y7=>
  bif y7 then
   (idx x28 x27).bind fun y8=>
   (idx x28 x27).bind fun y9=>
   some (x28.set x27.toNat ({ y9 with B:=((x7.get y8.B).getD 0) }))
  else
   some x28).bind fun x29=>
  (chk (x27+1)).bind fun z2=>
  rL x1 x7 k z2 x29
 else
  some x28
def sW (x7:aE Int Int) (y10:AN):Nat->Int->(List As)->Option (List As)
| 0,_,_=>none
| k+1,x39,x40=>
 if x39<(y10.AP.length:Int)then
  (idx y10.AP x39).bind fun y12=>
  (eP (x40++[(⟨y12.In,((x7.get y12.AU).getD 0)⟩:As)])).bind fun z3=>
  (chk (x39+1)).bind fun z4=>
  sW x7 y10 k z4 z3
 else
  some x40
def sV (x7:aE Int Int) (y10:AN):Nat->Int->(List Al)->Option (List Al)
| 0,_,_=>none
| k+1,x44,x45=>
 if x44<(y10.AO.length:Int)then
  (idx y10.AO x44).bind fun y13=>
  (nQ y13.AZ).bind fun y14=>
  (eP (x45++[(⟨y13.At,y14,((x7.get y13.AU).getD 0)⟩:Al)])).bind fun z5=>
  (chk (x44+1)).bind fun z6=>
  sV x7 y10 k z6 z5
 else
  some x45
def tD (AA:Nat) (a0:AL) (x7:aE Int Int):Nat->Int->(List AN)->Option (List AN)
| 0,_,_=>none
| k+1,x33,x34=>
 if x33<(a0.AE.length:Int)then
  ((idx a0.AE x33).bind fun y10=>
  (vW y10.AQ).bind fun y11=>
  (sW x7 y10 AA 0 []).bind fun x36=>
  (sV x7 y10 AA 0 []).bind fun x41=>
  (eP (x34++[(⟨y11,x36,x41⟩:AN)])).bind fun z7=>
  some z7).bind fun x35=>
  (chk (x33+1)).bind fun z8=>
  tD AA a0 x7 k z8 x35
 else
  some x34
def sY (AA:Nat) (a0:AL):Option (AC × Int):=
 (sQ AA (⟨a0.AF,a0.AH,a0.AE,a0.AG⟩:AL)).bind fun y1=>
 if y1.2≠0 then
  some ((⟨0,[],[],0⟩:AC),y1.2)
 else
  ((wG AA (⟨a0.AF,a0.AH,a0.AE,a0.AG⟩:AL)).bind fun y2=>
  sP AA y2 AA 0 [] a0.AF a0.AH a0.AE a0.AG y1.1 (aE.none:aE Int Int)).bind fun (x1,x2,x3,x4,x5,x6,x7)=>
  (rL x1 x7 AA 0 x1).bind fun x24=>
  (tD AA a0 x7 AA 0 []).bind fun x30=>
  some ((⟨(a0.AF.length:Int),x30,x24,((x7.get a0.AG).getD 0)⟩:AC),0)
theorem aJl (AA:Nat)  (a0:AL) (r:AC × Int) (H:sY AA a0=some r):FnS Tryz.prog 14 [fSt gL a0] [] (dA [fSt lR r.1,fI r.2]) (fun _=>[]):=by
 unfold sY at H
 refine bS Tryz.func14 rfl Tryz.ntmps14 rfl (fun β=>?_)
 refine Z1 ?_
 refine Tn (cA rfl hh bT) fun b1=>?_
 refine Tn (cF rfl aC4 rfl) fun b2=>?_
 refine B4 H fun y1 h1 H=>?_
 refine Tc (aJm _ _ _ h1) ?_
 refine Z6 ?_
 refine aL ?_
 refine I4 H (fun c1 H=>?_) fun c1 H=>?_
 refine Z2 ?_
 refine Yy (fK (ψs:=[fI 0,fEq (.slice none 0 0),fEq (.slice none 0 0),fI 0]) rfl aCC rfl bL.nil rfl) ?_
 refine Z1 ?_
 refine cM (φs':=[fI 0,fEq (.slice none 0 0),fEq (.slice none 0 0),fI 0]) a1W rfl rfl (has rfl) (has rfl) (aI (aG a1W) (aI (aG a1W) (aI (aG a1W) (aI (aG a1W) bM)))) (sz rfl) rfl rfl rfl ?_
 refine Z3 ?_
 cases H
 refine aF [0] (by decide) ?_
 exact aEb rfl (ag rfl) rfl (dS rfl) (dS rfl) (aDj (aJ.cons Ent.rfl (aJ.cons fF (aJ.cons fF (aJ.cons Ent.rfl aJ.nil))))) rfl
 refine Z6 ?_
 refine Tn (uM (fun y=>fI y) aZ rfl) fun b3=>?_
 refine Yy (fK (ψs:=[fEq (.slice none 0 0),fSl aK a0.AF,fSl aN a0.AH,fSl aB a0.AE,fI a0.AG,fSl tI y1.1,fEq (.map (some b3))]) rfl aJc rfl (bL.cons (has rfl) bT (bL.cons (has rfl) (cI (bR)) (bL.cons (has rfl) (cI (aG a1W)) bL.nil))) rfl) ?_
 refine Tn (cA rfl hh bT) fun b4=>?_
 revert H;refine B2z fun o1 H Hr1=>?_
 refine aQ (ι:=List AI × List ByteArray × List Af × List AN × Int × List Int × aE Int Int × Value × Nat) (fun i=>o1=(i.1,i.2.1,i.2.2.1,i.2.2.2.1,i.2.2.2.2.1,i.2.2.2.2.2.1,i.2.2.2.2.2.2.1)) (fun i=>[(1,fEq (ptr b1)),(2,fEq (ptr b2)),(6,fEq (ptr b4))]) (fun i=>[aA b4 103 [fEq i.2.2.2.2.2.2.2.1,fSl aK i.2.1,fSl aN i.2.2.1,fSl aB i.2.2.2.1,fI i.2.2.2.2.1,fSl tI i.2.2.2.2.2.1,fEq (.map (some i.2.2.2.2.2.2.2.2))],aA b2 25 [fI 0,fEq (.slice none 0 0),fEq (.slice none 0 0),fI 0],aA b1 37 [fSl aK a0.AF,fSl aN a0.AH,fSl aB a0.AE,fI a0.AG],bE aZ (fun y=>fI y) i.2.2.2.2.2.2.2.2 i.2.2.2.2.2.2.1,aD i.2.2.2.2.2.2.2.1 73 aP i.1]) ?_ ?_
 revert H;refine B2z fun y2 h2 H=>?_
 refine Tc (aIw _ _ _ h2) ?_
 refine Z4 ?_
 refine gK aP 73 ?_
 refine aF [1,3,4,2,0] (by decide) ?_
 refine Th (ι:=Int × List AI × List ByteArray × List Af × List AN × Int × List Int × aE Int Int × Value × Nat) (fun i=>sP AA y2 i.1 i.2.1 i.2.2.1 i.2.2.2.1 i.2.2.2.2.1 i.2.2.2.2.2.1 i.2.2.2.2.2.2.1 i.2.2.2.2.2.2.2.1 i.2.2.2.2.2.2.2.2.1=_) (fun i=>[(1,fEq (ptr b1)),(2,fEq (ptr b2)),(6,fEq (ptr b4)),(33,fSl tI y2),(34,fI (y2.length:Int)),(35,fI i.2.1)]) (fun i=>[aA b4 103 [fEq i.2.2.2.2.2.2.2.2.2.1,fSl aK i.2.2.2.1,fSl aN i.2.2.2.2.1,fSl aB i.2.2.2.2.2.1,fI i.2.2.2.2.2.2.1,fSl tI i.2.2.2.2.2.2.2.1,fEq (.map (some i.2.2.2.2.2.2.2.2.2.2))],aA b2 25 [fI 0,fEq (.slice none 0 0),fEq (.slice none 0 0),fI 0],aA b1 37 [fSl aK a0.AF,fSl aN a0.AH,fSl aB a0.AE,fI a0.AG],bE aZ (fun y=>fI y) i.2.2.2.2.2.2.2.2.2.2 i.2.2.2.2.2.2.2.2.1,aD i.2.2.2.2.2.2.2.2.2.1 73 aP i.2.2.1]) (AA,0,[],a0.AF,a0.AH,a0.AE,a0.AG,y1.1,(aE.none:aE Int Int),(.slice none 0 0),b3) H (fun _ h=>nomatch h) ?_
 clear H;rintro k1 ⟨x16,x17,x18,x19,x20,x21,x22,x23,v3,b7⟩ H;dsimp only at H ⊢;rw [sP]at H
 refine rc 4 fun _=>?_
 refine Z3 ?_
 refine aL ?_
 revert H;refine is (fun c2 H=>?_) fun c2 H=>?_
 refine Z3 ?_
 refine aL ?_
 revert H;refine B2z fun y3 h3 H=>?_
 refine Z4 ?_
 refine aL ?_
 apply bG (ods:=[_,_,_,_,_,_,_,_,_,_,_]) 11 0 5 bF rfl rfl rfl
 refine ND ?_
 refine M8 ?_
 intros
 refine M3 ?_
 intros
 refine Z1 ?_
 refine bA ?_
 refine iM (k:=y3) (y:=(x17.length:Int)) a1W (.inl rfl) rfl (has rfl) (has rfl) rfl (has rfl) rfl zX ?_
 refine Z4 ?_
 refine bH ?_
 refine aO ?_
 refine aM ?_
 refine cW ?_
 revert H;refine bs fun y4 h4 H=>?_
 refine Tc (aKV _ _ _ _ _ h4) ?_
 refine dN (fun v4 v5=>?_)
 refine aM ?_
 refine bP (fun b8 h5=>?_);subst h5
 refine rc 2 fun _=>?_
 refine Z5 ?_
 refine bH ?_
 refine aM ?_
 refine aM ?_
 refine cW ?_
 revert H;refine bs fun y5 h6 H=>?_
 refine Tc (lG _ _ _ _ _ _ h6) ?_
 refine dN (fun v6 v7=>?_)
 refine aM ?_
 refine bP (fun b9 h7=>?_);subst h7
 refine rc 2 fun _=>?_
 revert H;refine B4z fun z1 h8 H=>?_
 refine Z3 ?_
 refine aF [1,3,4,0,2] (by decide) ?_
 exact Tm ((k1,z1,y5.tape.code,y5.p.AF,y5.p.AH,y5.p.AE,y5.p.AG,y5.AS,y5.Aq,v6,b9)) ⟨H,ls⟩
 exact fk
 kernel_rfl
 refine Z6 ?_
 exact Tm ((x17,x18,x19,x20,x21,x22,x23,v3,b7)) (ij H)
 rintro⟨x1,x2,x3,x4,x5,x6,x7,v1,b5⟩ hi;subst o1;replace H:=Hr1;clear Hr1;try dsimp only at H ⊢
 refine rc 4 fun hc_v1=>?_
 refine aL ?_
 apply bG (ods:=[_,_,_,_,_,_,_,_,_,_,_,_,_,_,_,_,_,_]) 18 1 6 bF rfl rfl rfl
 refine ND ?_
 refine M8 ?_
 intros
 refine M6 ?_
 intros
 refine Mo 3 rfl (uC (zα:=0) (k:=a0.AG) rfl hh hh rfl zX Ent.rfl) fun _=>?_
 refine My (fK (ψs:=[fI (a0.AF.length:Int),fEq (.slice none 0 0),fEq v1,fI ((x7.get a0.AG).getD 0)]) rfl aCC rfl (bL.cons (has rfl) (cI (aG a1W)) (bL.cons (has rfl) (cI (aG hc_v1)) (bL.cons (has rfl) (cI (aG a1W)) bL.nil))) rfl) fun _=>?_
 refine Mn 5 (fun b10=>ptr b10) (fun b10=>aA b10 25 [fI 0,fEq (.slice none 0 0),fEq (.slice none 0 0),fI 0]) rfl (cF rfl aC4 rfl) (fun b10 u1=>?_)
 refine rI (od:=od1 16 [5] true (fun b10 _=>eG) (fun b10 _=>[aA b10 25 [fI (a0.AF.length:Int),fEq (.slice none 0 0),fEq v1,fI ((x7.get a0.AG).getD 0)]])) (p:=5) (φs':=[fI (a0.AF.length:Int),fEq (.slice none 0 0),fEq v1,fI ((x7.get a0.AG).getD 0)]) rfl (fun _=>rfl) (fun _=>rfl) a1W rfl rfl rfl (has rfl) (has rfl) (aI (aG a1W) (aI (aG a1W) (aI (aG hc_v1) (aI (aG a1W) bM)))) (sz rfl) rfl rfl rfl (fun _=>?_)
 revert H;refine B2z fun o2 H Hr2=>?_
 refine aQ (fun i=>o2=i) (fun i=>[(1,fEq (ptr b1)),(2,fEq (ptr b2)),(6,fEq (ptr b4)),(9,fEq (ptr b10))]) (fun i=>[aA b4 103 [fEq v1,fSl aK x2,fSl aN x3,fSl aB x4,fI x5,fSl tI x6,fEq (.map (some b5))],aA b2 25 [fI 0,fEq (.slice none 0 0),fEq (.slice none 0 0),fI 0],aA b1 37 [fSl aK a0.AF,fSl aN a0.AH,fSl aB a0.AE,fI a0.AG],aA b10 25 [fI (a0.AF.length:Int),fEq (.slice none 0 0),fEq v1,fI ((x7.get a0.AG).getD 0)],bE aZ (fun y=>fI y) b5 x7,aD v1 73 aP i]) ?_ ?_
 refine Z7 ?_
 refine aF [0,1,2,5,3,4] (by decide) ?_
 refine Th (ι:=Int × List AI) (fun i=>rL x1 x7 i.1 i.2.1 i.2.2=_) (fun i=>[(1,fEq (ptr b1)),(2,fEq (ptr b2)),(6,fEq (ptr b4)),(9,fEq (ptr b10)),(76,fI (x1.length:Int)),(77,fI i.2.1)]) (fun i=>[aA b4 103 [fEq v1,fSl aK x2,fSl aN x3,fSl aB x4,fI x5,fSl tI x6,fEq (.map (some b5))],aA b2 25 [fI 0,fEq (.slice none 0 0),fEq (.slice none 0 0),fI 0],aA b1 37 [fSl aK a0.AF,fSl aN a0.AH,fSl aB a0.AE,fI a0.AG],aA b10 25 [fI (a0.AF.length:Int),fEq (.slice none 0 0),fEq v1,fI ((x7.get a0.AG).getD 0)],bE aZ (fun y=>fI y) b5 x7,aD v1 73 aP i.2.2]) (AA,0,x1) H (fun _ h=>nomatch h) ?_
 clear H;rintro k2 ⟨x27,x28⟩ H;dsimp only at H ⊢;rw [rL]at H
 refine Z3 ?_
 refine aL ?_
 revert H;refine is (fun c3 H=>?_) fun c3 H=>?_
 revert H;refine B3z fun o3 H Hr3=>?_
 refine aQ (fun i=>o3=i) (fun i=>[(1,fEq (ptr b1)),(2,fEq (ptr b2)),(6,fEq (ptr b4)),(9,fEq (ptr b10)),(76,fI (x1.length:Int)),(77,fI x27)]) (fun i=>[aA b4 103 [fEq v1,fSl aK x2,fSl aN x3,fSl aB x4,fI x5,fSl tI x6,fEq (.map (some b5))],aA b2 25 [fI 0,fEq (.slice none 0 0),fEq (.slice none 0 0),fI 0],aA b1 37 [fSl aK a0.AF,fSl aN a0.AH,fSl aB a0.AE,fI a0.AG],aA b10 25 [fI (a0.AF.length:Int),fEq (.slice none 0 0),fEq v1,fI ((x7.get a0.AG).getD 0)],bE aZ (fun y=>fI y) b5 x7,aD v1 73 aP i]) ?_ ?_
 revert H;refine B9z fun y6 h9 H=>?_
 refine Yo 5 rfl (lT rfl hh hh (el rfl) h9) ?_
 refine Yy (aA6 0 rfl hh (fa rfl) rfl) ?_
 refine Yo 5 rfl (jE rfl rfl hh (sc rfl) (idx_get h9) rfl) ?_
 revert H;refine bs fun y7 h10 H=>?_
 refine Tc (aE5 _ _ h10) ?_
 refine Z1 ?_
 revert H;refine cs (fun c4 H=>?_) fun c4 H=>?_
 revert H;refine B1z fun y8 h11 H=>?_
 revert H;refine bs fun y9 h12 H=>?_
 apply bG (ods:=[_,_,_,_,_,_,_,_,_,_,_,_,_,_,_,_,_]) 17 0 6 bF rfl rfl rfl
 refine ND ?_
 refine M8 ?_
 intros
 refine M2 ?_
 intros
 refine Mo 5 rfl (lT rfl hh hh (el rfl) h11) fun _=>?_
 refine My (aA6 2 rfl hh (fa rfl) rfl) fun _=>?_
 refine Mo 5 rfl (jE rfl rfl hh (sc rfl) (idx_get h11) rfl) fun _=>?_
 refine Mo 4 rfl (uC (zα:=0) (k:=y8.B) rfl hh hh rfl zX Ent.rfl) fun _=>?_
 refine M1 ?_
 intros
 refine My (aA6 2 rfl hh (fa rfl) rfl) fun _=>?_
 refine tQ (od:=odC [5] true (eG) [aD v1 73 aP (x28.set x27.toNat ({ y9 with B:=((x7.get y8.B).getD 0) }))]) (p:=5) (z':={ y9 with B:=((x7.get y8.B).getD 0) }) rfl (fun _=>rfl) (fun _=>rfl) a1W rfl rfl rfl rfl (has rfl) (has rfl) (aG a1W) (sz rfl) (idx_get h12) rfl rfl (fun _=>?_)
 refine Z4 ?_
 exact Tm (x28.set x27.toNat ({ y9 with B:=((x7.get y8.B).getD 0) })) (ij H)
 exact fk
 kernel_rfl
 refine Z4 ?_
 exact Tm (x28) (ij H)
 rintro x29 hi;subst o3;replace H:=Hr3;clear Hr3;try dsimp only at H ⊢
 revert H;refine B1z fun z2 h13 H=>?_
 refine Z3 ?_
 exact Tm ((k2,z2,x29)) ⟨H,ls⟩
 refine Z6 ?_
 exact Tm (x28) (ij H)
 rintro x24 hi;subst o2;replace H:=Hr2;clear Hr2;try dsimp only at H ⊢
 revert H;refine bs fun o4 H Hr4=>?_
 refine aQ (ι:=List AN × Value) (fun i=>o4=i.1) (fun i=>[(2,fEq (ptr b2)),(9,fEq (ptr b10))]) (fun i=>[aA b4 103 [fEq v1,fSl aK x2,fSl aN x3,fSl aB x4,fI x5,fSl tI x6,fEq (.map (some b5))],aA b2 25 [fI 0,fEq (.slice none 0 0),fEq (.slice none 0 0),fI 0],aA b1 37 [fSl aK a0.AF,fSl aN a0.AH,fSl aB a0.AE,fI a0.AG],aA b10 25 [fI (a0.AF.length:Int),fEq i.2,fEq v1,fI ((x7.get a0.AG).getD 0)],bE aZ (fun y=>fI y) b5 x7,aD v1 73 aP x24,aD i.2 63 aB i.1]) ?_ ?_
 refine Z7 ?_
 refine gK aB 63 ?_
 refine aF [1,2,3,4,5,6,0] (by decide) ?_
 refine Th (ι:=Int × List AN × Value) (fun i=>tD AA a0 x7 i.1 i.2.1 i.2.2.1=_) (fun i=>[(2,fEq (ptr b2)),(6,fEq (ptr b4)),(9,fEq (ptr b10)),(105,fSl aB a0.AE),(106,fI (a0.AE.length:Int)),(107,fI i.2.1)]) (fun i=>[aA b4 103 [fEq v1,fSl aK x2,fSl aN x3,fSl aB x4,fI x5,fSl tI x6,fEq (.map (some b5))],aA b2 25 [fI 0,fEq (.slice none 0 0),fEq (.slice none 0 0),fI 0],aA b1 37 [fSl aK a0.AF,fSl aN a0.AH,fSl aB a0.AE,fI a0.AG],aA b10 25 [fI (a0.AF.length:Int),fEq i.2.2.2,fEq v1,fI ((x7.get a0.AG).getD 0)],bE aZ (fun y=>fI y) b5 x7,aD v1 73 aP x24,aD i.2.2.2 63 aB i.2.2.1]) (AA,0,[],(.slice none 0 0)) H (fun _ h=>nomatch h) ?_
 clear H;rintro k3 ⟨x33,x34,v10⟩ H;dsimp only at H ⊢;rw [tD]at H
 refine rc 6 fun _=>?_
 refine Z3 ?_
 refine aL ?_
 revert H;refine is (fun c5 H=>?_) fun c5 H=>?_
 revert H;refine B3z fun o5 H Hr5=>?_
 refine aQ (ι:=List AN × Value) (fun i=>o5=i.1) (fun i=>[(2,fEq (ptr b2)),(6,fEq (ptr b4)),(9,fEq (ptr b10)),(105,fSl aB a0.AE),(106,fI (a0.AE.length:Int)),(107,fI x33)]) (fun i=>[aA b10 25 [fI (a0.AF.length:Int),fEq i.2,fEq v1,fI ((x7.get a0.AG).getD 0)],aA b4 103 [fEq v1,fSl aK x2,fSl aN x3,fSl aB x4,fI x5,fSl tI x6,fEq (.map (some b5))],aA b2 25 [fI 0,fEq (.slice none 0 0),fEq (.slice none 0 0),fI 0],aA b1 37 [fSl aK a0.AF,fSl aN a0.AH,fSl aB a0.AE,fI a0.AG],bE aZ (fun y=>fI y) b5 x7,aD i.2 63 aB i.1,aD v1 73 aP x24]) ?_ ?_
 revert H;refine B2z fun y10 h14 H=>?_
 refine Z2 ?_
 refine Tn (cF rfl qN rfl) fun b11=>?_
 refine cM (φs':=[fSl bC y10.AQ,fSl bD y10.AP,fSl bB y10.AO]) a1W rfl rfl (has rfl) (has rfl) (aI (bR) (aI (bR) (aI (bR) bM))) (sz rfl) rfl rfl rfl ?_
 revert H;refine B4z fun y11 h15 H=>?_
 refine Tc (aJJ _ _ h15) ?_
 refine Yy (fK (ψs:=[fSl bC y11,fEq (.slice none 0 0),fEq (.slice none 0 0)]) rfl ty_bu_63 rfl (bL.cons (has rfl) (cI (bR)) bL.nil) rfl) ?_
 refine Tn (cF rfl qN rfl) fun b12=>?_
 refine cM (φs':=[fSl bC y11,fEq (.slice none 0 0),fEq (.slice none 0 0)]) a1W rfl rfl (has rfl) (has rfl) (aI (bR) (aI (aG a1W) (aI (aG a1W) bM))) (sz rfl) rfl rfl rfl ?_
 revert H;refine B1z fun o6 H Hr6=>?_
 refine aQ (ι:=List As × Value) (fun i=>o6=i.1) (fun i=>[(2,fEq (ptr b2)),(6,fEq (ptr b4)),(9,fEq (ptr b10)),(105,fSl aB a0.AE),(106,fI (a0.AE.length:Int)),(107,fI x33),(12,fEq (ptr b11)),(13,fEq (ptr b12))]) (fun i=>[aA b12 63 [fSl bC y11,fEq i.2,fEq (.slice none 0 0)],aA b11 63 [fSl bC y10.AQ,fSl bD y10.AP,fSl bB y10.AO],aA b4 103 [fEq v1,fSl aK x2,fSl aN x3,fSl aB x4,fI x5,fSl tI x6,fEq (.map (some b5))],aA b2 25 [fI 0,fEq (.slice none 0 0),fEq (.slice none 0 0),fI 0],aA b1 37 [fSl aK a0.AF,fSl aN a0.AH,fSl aB a0.AE,fI a0.AG],aA b10 25 [fI (a0.AF.length:Int),fEq v10,fEq v1,fI ((x7.get a0.AG).getD 0)],bE aZ (fun y=>fI y) b5 x7,aD i.2 112 bD i.1,aD v1 73 aP x24,aD v10 63 aB x34]) ?_ ?_
 refine Z7 ?_
 refine gK bD 112 ?_
 refine aF [1,2,3,4,5,6,7,0,8,9] (by decide) ?_
 refine Th (ι:=Int × List As × Value) (fun i=>sW x7 y10 i.1 i.2.1 i.2.2.1=_) (fun i=>[(2,fEq (ptr b2)),(6,fEq (ptr b4)),(9,fEq (ptr b10)),(105,fSl aB a0.AE),(106,fI (a0.AE.length:Int)),(107,fI x33),(12,fEq (ptr b11)),(13,fEq (ptr b12)),(116,fSl bD y10.AP),(117,fI (y10.AP.length:Int)),(118,fI i.2.1)]) (fun i=>[aA b12 63 [fSl bC y11,fEq i.2.2.2,fEq (.slice none 0 0)],aA b11 63 [fSl bC y10.AQ,fSl bD y10.AP,fSl bB y10.AO],aA b4 103 [fEq v1,fSl aK x2,fSl aN x3,fSl aB x4,fI x5,fSl tI x6,fEq (.map (some b5))],aA b2 25 [fI 0,fEq (.slice none 0 0),fEq (.slice none 0 0),fI 0],aA b1 37 [fSl aK a0.AF,fSl aN a0.AH,fSl aB a0.AE,fI a0.AG],aA b10 25 [fI (a0.AF.length:Int),fEq v10,fEq v1,fI ((x7.get a0.AG).getD 0)],bE aZ (fun y=>fI y) b5 x7,aD i.2.2.2 112 bD i.2.2.1,aD v1 73 aP x24,aD v10 63 aB x34]) (AA,0,[],(.slice none 0 0)) H (fun _ h=>nomatch h) ?_
 clear H;rintro k4 ⟨x39,x40,v14⟩ H;dsimp only at H ⊢;rw [sW]at H
 refine rc 7 fun _=>?_
 refine Z3 ?_
 refine aL ?_
 revert H;refine is (fun c6 H=>?_) fun c6 H=>?_
 refine Z3 ?_
 refine aL ?_
 revert H;refine B2z fun y12 h16 H=>?_
 refine Z2 ?_
 refine Tn (cF rfl qJ rfl) fun b13=>?_
 refine cM (φs':=[fI y12.In,fI y12.AU]) a1W rfl rfl (has rfl) (has rfl) (aI (aG a1W) (aI (aG a1W) bM)) (sz rfl) rfl rfl rfl ?_
 refine Z1 ?_
 apply bG (ods:=[_,_,_,_,_,_,_,_,_,_,_,_,_]) 13 0 11 bF rfl rfl rfl
 refine ND ?_
 refine M8 ?_
 intros
 refine M2 ?_
 intros
 refine Mo 7 rfl (uC (zα:=0) (k:=y12.AU) rfl hh hh rfl zX Ent.rfl) fun _=>?_
 refine My (fK (ψs:=[fI y12.In,fI ((x7.get y12.AU).getD 0)]) rfl aJj rfl (bL.cons (has rfl) (cI (aG a1W)) (bL.cons (has rfl) (cI (aG a1W)) bL.nil)) rfl) fun _=>?_
 refine Mf (φ:=fSl bD [(⟨y12.In,((x7.get y12.AU).getD 0)⟩:As)]) (gI (t:=bD) (xs:=[(⟨y12.In,((x7.get y12.AU).getD 0)⟩:As)]) rfl (et rfl) (cE.cons rfl (has rfl) bT cE.nil) rfl rfl rfl) (fun b=>eT) fun _=>?_
 revert H;refine B1z fun z3 h17 H=>?_
 refine T_fr8 ?_
 refine aAt (ys:=[(⟨y12.In,((x7.get y12.AU).getD 0)⟩:As)]) a1W rfl rfl rfl (has rfl) (has rfl) (et rfl) rfl h17 (fun v16=>?_)
 refine rc 0 fun hc_v16=>?_
 refine Z1 ?_
 refine aM ?_
 refine cQ (φs':=[fSl bC y11,fEq v16,fEq (.slice none 0 0)]) a1W rfl rfl (has rfl) (has rfl) (aG hc_v16) (sz rfl) rfl rfl ?_
 revert H;refine B4z fun z4 h18 H=>?_
 refine Z3 ?_
 refine aF [0,3,4,5,6,7,8,1,9,10] (by decide) ?_
 exact Tm ((k4,z4,z3,v16)) ⟨H,ls⟩
 exact fk
 kernel_rfl
 refine Z6 ?_
 exact Tm ((x40,v14)) (ij H)
 rintro⟨x36,v12⟩ hi;subst o6;replace H:=Hr6;clear Hr6;try dsimp only at H ⊢
 refine rc 7 fun _=>?_
 revert H;refine bs fun o7 H Hr7=>?_
 refine aQ (ι:=List Al × Value) (fun i=>o7=i.1) (fun i=>[(2,fEq (ptr b2)),(6,fEq (ptr b4)),(9,fEq (ptr b10)),(105,fSl aB a0.AE),(106,fI (a0.AE.length:Int)),(107,fI x33),(13,fEq (ptr b12))]) (fun i=>[aA b12 63 [fSl bC y11,fEq v12,fEq i.2],aA b11 63 [fSl bC y10.AQ,fSl bD y10.AP,fSl bB y10.AO],aA b4 103 [fEq v1,fSl aK x2,fSl aN x3,fSl aB x4,fI x5,fSl tI x6,fEq (.map (some b5))],aA b2 25 [fI 0,fEq (.slice none 0 0),fEq (.slice none 0 0),fI 0],aA b1 37 [fSl aK a0.AF,fSl aN a0.AH,fSl aB a0.AE,fI a0.AG],aA b10 25 [fI (a0.AF.length:Int),fEq v10,fEq v1,fI ((x7.get a0.AG).getD 0)],bE aZ (fun y=>fI y) b5 x7,aD v12 112 bD x36,aD i.2 114 bB i.1,aD v1 73 aP x24,aD v10 63 aB x34]) ?_ ?_
 refine Z7 ?_
 refine gK bB 114 ?_
 refine aF [1,2,3,4,5,6,7,8,0,9,10] (by decide) ?_
 refine Th (ι:=Int × List Al × Value) (fun i=>sV x7 y10 i.1 i.2.1 i.2.2.1=_) (fun i=>[(2,fEq (ptr b2)),(6,fEq (ptr b4)),(9,fEq (ptr b10)),(105,fSl aB a0.AE),(106,fI (a0.AE.length:Int)),(107,fI x33),(13,fEq (ptr b12)),(139,fSl bB y10.AO),(140,fI (y10.AO.length:Int)),(141,fI i.2.1)]) (fun i=>[aA b12 63 [fSl bC y11,fEq v12,fEq i.2.2.2],aA b11 63 [fSl bC y10.AQ,fSl bD y10.AP,fSl bB y10.AO],aA b4 103 [fEq v1,fSl aK x2,fSl aN x3,fSl aB x4,fI x5,fSl tI x6,fEq (.map (some b5))],aA b2 25 [fI 0,fEq (.slice none 0 0),fEq (.slice none 0 0),fI 0],aA b1 37 [fSl aK a0.AF,fSl aN a0.AH,fSl aB a0.AE,fI a0.AG],aA b10 25 [fI (a0.AF.length:Int),fEq v10,fEq v1,fI ((x7.get a0.AG).getD 0)],bE aZ (fun y=>fI y) b5 x7,aD v12 112 bD x36,aD i.2.2.2 114 bB i.2.2.1,aD v1 73 aP x24,aD v10 63 aB x34]) (AA,0,[],(.slice none 0 0)) H (fun _ h=>nomatch h) ?_
 clear H;rintro k5 ⟨x44,x45,v19⟩ H;dsimp only at H ⊢;rw [sV]at H
 refine rc 8 fun _=>?_
 refine Z3 ?_
 refine aL ?_
 revert H;refine is (fun c7 H=>?_) fun c7 H=>?_
 refine Z3 ?_
 refine aL ?_
 revert H;refine B2z fun y13 h19 H=>?_
 refine Z2 ?_
 refine Tn (cF rfl mF rfl) fun b15=>?_
 refine cM (φs':=[fI y13.At,fSl tI y13.AZ,fI y13.AU]) a1W rfl rfl (has rfl) (has rfl) (aI (aG a1W) (aI (bR) (aI (aG a1W) bM))) (sz rfl) rfl rfl rfl ?_
 revert H;refine B1z fun y14 h20 H=>?_
 apply bG (ods:=[_,_,_,_,_,_,_,_,_,_,_,_,_,_,_,_]) 16 0 12 bF rfl rfl rfl
 refine ND ?_
 refine M6 ?_
 intros
 refine N_call (od:=odC [] true (fSl tI y14) []) (Φ:=fSl tI y14) rfl (fun _=>rfl) a1W rfl rfl (has rfl) (aS.cons (has rfl) aS.nil) rfl (cb rfl) (aIX y13.AZ y14 h20) (fun _=>?_)
 refine M6 ?_
 intros
 refine Mo 7 rfl (uC (zα:=0) (k:=y13.AU) rfl hh hh rfl zX Ent.rfl) fun _=>?_
 refine My (fK (ψs:=[fI y13.At,fSl tI y14,fI ((x7.get y13.AU).getD 0)]) rfl aLe rfl (bL.cons (has rfl) (cI (aG a1W)) (bL.cons (has rfl) (cI (bR)) (bL.cons (has rfl) (cI (aG a1W)) bL.nil))) rfl) fun _=>?_
 refine Mf (φ:=fSl bB [(⟨y13.At,y14,((x7.get y13.AU).getD 0)⟩:Al)]) (gI (t:=bB) (xs:=[(⟨y13.At,y14,((x7.get y13.AU).getD 0)⟩:Al)]) rfl (et rfl) (cE.cons rfl (has rfl) bT cE.nil) rfl rfl rfl) (fun b=>eT) fun _=>?_
 revert H;refine B1z fun z5 h21 H=>?_
 refine T_fr9 ?_
 refine aAt (ys:=[(⟨y13.At,y14,((x7.get y13.AU).getD 0)⟩:Al)]) a1W rfl rfl rfl (has rfl) (has rfl) (et rfl) rfl h21 (fun v21=>?_)
 refine rc 0 fun hc_v21=>?_
 refine Z1 ?_
 refine aM ?_
 refine cQ (φs':=[fSl bC y11,fEq v12,fEq v21]) a1W rfl rfl (has rfl) (has rfl) (aG hc_v21) (sz rfl) rfl rfl ?_
 revert H;refine B4z fun z6 h22 H=>?_
 refine Z3 ?_
 refine aF [0,3,4,5,6,7,8,9,1,10,11] (by decide) ?_
 exact Tm ((k5,z6,z5,v21)) ⟨H,ls⟩
 exact fk
 kernel_rfl
 refine Z6 ?_
 exact Tm ((x45,v19)) (ij H)
 rintro⟨x41,v17⟩ hi;subst o7;replace H:=Hr7;clear Hr7;try dsimp only at H ⊢
 refine rc 8 fun _=>?_
 refine Z4 ?_
 refine T_fr7 ?_
 refine dI (φ:=fSl bD x36) (v:=v12) [] eT (fun _ h=>nomatch h) ?_
 refine fP (φs':=[fSl bC y11,fSl bD x36,fEq v17]) (i:=1) rfl rfl ?_
 refine yR 166 (ψ:=fU [fSl bC y11,fEq v12,fEq v17]) rfl (aAm (i:=1) (φs:=[fSl bC y11,fEq v12,fEq v17]) (φs':=[fSl bC y11,fSl bD x36,fEq v17]) rfl rfl) ?_
 refine dH ?_
 refine T_fr7 ?_
 refine dI (φ:=fSl bB x41) (v:=v17) [] eT (fun _ h=>nomatch h) ?_
 refine fP (φs':=[fSl bC y11,fSl bD x36,fSl bB x41]) (i:=2) rfl rfl ?_
 refine yR 166 (ψ:=fU [fSl bC y11,fSl bD x36,fEq v17]) rfl (aAm (i:=2) (φs:=[fSl bC y11,fSl bD x36,fEq v17]) (φs':=[fSl bC y11,fSl bD x36,fSl bB x41]) rfl rfl) ?_
 refine dH ?_
 refine Tn (gI (t:=aB) (xs:=[(⟨y11,x36,x41⟩:AN)]) rfl (et rfl) (cE.cons rfl hh bT cE.nil) rfl rfl rfl) fun b17=>?_
 generalize (Value.slice (some ⟨b17,0,none⟩) _ _)=v22
 refine rc 0 fun _=>?_
 revert H;refine bs fun z7 h23 H=>?_
 refine T_fr9 ?_
 refine aW ?_
 refine lP a1W rfl rfl rfl (has rfl) (has rfl) (et rfl) rfl h23 (fun v23=>?_)
 refine rc 0 fun hc_v23=>?_
 refine Z1 ?_
 refine iQ ?_
 refine cQ (φs':=[fI (a0.AF.length:Int),fEq v23,fEq v1,fI ((x7.get a0.AG).getD 0)]) a1W rfl rfl (has rfl) (has rfl) (aG hc_v23) (sz rfl) rfl rfl ?_
 refine Z3 ?_
 refine aF [0,4,5,6,7,1,8] (by decide) ?_
 exact Tm ((z7,v23)) (ij H)
 rintro⟨x35,v11⟩ hi;subst o5;replace H:=Hr5;clear Hr5;try dsimp only at H ⊢
 refine rc 5 fun _=>?_
 revert H;refine B1z fun z8 h24 H=>?_
 refine Z3 ?_
 refine aF [1,2,3,0,4,6,5] (by decide) ?_
 exact Tm ((k3,z8,x35,v11)) ⟨H,ls⟩
 refine Z6 ?_
 exact Tm ((x34,v10)) (ij H)
 rintro⟨x30,v8⟩ hi;subst o4;replace H:=Hr4;clear Hr4;try dsimp only at H ⊢
 refine rc 6 fun hc_v8=>?_
 refine Z2 ?_
 refine aW ?_
 refine cM (φs':=[fI (a0.AF.length:Int),fEq v8,fEq v1,fI ((x7.get a0.AG).getD 0)]) a1W rfl rfl (has rfl) (has rfl) (aI (aG a1W) (aI (aG hc_v8) (aI (aG hc_v1) (aI (aG a1W) bM)))) (sz rfl) rfl rfl rfl ?_
 refine Z3 ?_
 refine iQ ?_
 refine dI (φ:=fSl aB x30) (v:=v8) [] eT (fun _ h=>nomatch h) ?_
 refine fP (φs':=[fI (a0.AF.length:Int),fSl aB x30,fEq v1,fI ((x7.get a0.AG).getD 0)]) (i:=1) rfl rfl ?_
 refine aO ?_
 refine aW ?_
 refine fP (φs':=[fI (a0.AF.length:Int),fSl aB x30,fEq v1,fI ((x7.get a0.AG).getD 0)]) (i:=1) rfl rfl ?_
 refine yR 171 (ψ:=fU [fI (a0.AF.length:Int),fEq v8,fEq v1,fI ((x7.get a0.AG).getD 0)]) rfl (aAm (i:=1) (φs:=[fI (a0.AF.length:Int),fEq v8,fEq v1,fI ((x7.get a0.AG).getD 0)]) (φs':=[fI (a0.AF.length:Int),fSl aB x30,fEq v1,fI ((x7.get a0.AG).getD 0)]) rfl rfl) ?_
 refine dH ?_
 refine gD ?_
 refine dI (φ:=fSl aP x24) (v:=v1) [] eT (fun _ h=>nomatch h) ?_
 refine bA ?_
 refine aW ?_
 refine fP (φs':=[fSl aP x24,fSl aK x2,fSl aN x3,fSl aB x4,fI x5,fSl tI x6,fEq (.map (some b5))]) (i:=0) rfl rfl ?_
 refine bA ?_
 refine aW ?_
 refine fP (φs':=[fI (a0.AF.length:Int),fSl aB x30,fSl aP x24,fI ((x7.get a0.AG).getD 0)]) (i:=2) rfl rfl ?_
 refine bA ?_
 refine aW ?_
 refine fP (φs':=[fI (a0.AF.length:Int),fSl aB x30,fSl aP x24,fI ((x7.get a0.AG).getD 0)]) (i:=2) rfl rfl ?_
 refine yR 171 (ψ:=fU [fI (a0.AF.length:Int),fSl aB x30,fEq v1,fI ((x7.get a0.AG).getD 0)]) rfl (aAm (i:=2) (φs:=[fI (a0.AF.length:Int),fSl aB x30,fEq v1,fI ((x7.get a0.AG).getD 0)]) (φs':=[fI (a0.AF.length:Int),fSl aB x30,fSl aP x24,fI ((x7.get a0.AG).getD 0)]) rfl rfl) ?_
 refine dH ?_
 cases H
 refine aF [1] (by decide) ?_
 exact aEb rfl (ag rfl) rfl (dS rfl) (dS rfl) Ent.rfl rfl
 exact fk
 kernel_rfl
def sN (a0:List ByteArray) (a1:ByteArray):Nat->Int->Option ((Unit) ⊕ (Bool))
| 0,_=>none
| k+1,x2=>
 if x2<(a0.length:Int)then
  (idx a0 x2).bind fun y1=>
  if y1=a1 then
   (some true).bind fun r=>some (Sum.inr r)
  else
   (chk (x2+1)).bind fun z1=>
   sN a0 a1 k z1
 else
  some (Sum.inl ())
def xI (AA:Nat) (a0:List ByteArray) (a1:ByteArray):Option (Bool):=
 (sN a0 a1 AA 0).bind fun o=>match o with
 | Sum.inr r=>some r
 | Sum.inl _=>
 some false
theorem aKB (AA:Nat)  (a0:List ByteArray) (a1:ByteArray) (r:Bool) (H:xI AA a0 a1=some r):FnS Tryz.prog 133 [fSl aK a0,fQ a1] [] (aH r) (fun _=>[]):=by
 unfold xI at H
 refine bS Tryz.func133 rfl Tryz.ntmps133 rfl (fun β=>?_)
 revert H;refine B3z fun o1 H Hr1=>?_
 refine aQ (ι:=Unit) (fun i=>o1=Sum.inl ()) (fun i=>[]) (fun i=>[]) ?_ ?_
 refine Z4 ?_
 refine Th (ι:=Int) (fun i=>sN a0 a1 i.1 i.2=_) (fun i=>[(0,fSl aK a0),(1,fQ a1),(5,fI i.2)]) (fun i=>[]) (AA,0) H (fun _ h=>nomatch h) ?_
 clear H;rintro k1 x2 H;dsimp only at H ⊢;rw [sN]at H
 refine aL ?_
 revert H;refine I6z (fun c1 H=>?_) fun c1 H=>?_
 refine Z3 ?_
 refine aL ?_
 revert H;refine B4z fun y1 h1 H=>?_
 refine Z3 ?_
 refine Yy (o_eqlS rfl hh hh) ?_
 revert H;refine I1z (fun c2 H=>?_) fun c2 H=>?_
 revert H;refine hO fun r1 H e1=>?_
 cases e1;cases Hr1
 cases H
 exact To
 revert H;refine B6z fun z1 h2 H=>?_
 refine Z3 ?_
 exact Tm ((k1,z1)) ⟨H,ls⟩
 refine Z6 ?_
 exact Tm (()) (ij H)
 rintro i hi;subst o1;replace H:=Hr1;clear Hr1;try dsimp only at H ⊢
 refine Z4 ?_
 cases H
 exact To
def tP (a0:ByteArray):Nat->Int->Option ((Unit) ⊕ (Bool))
| 0,_=>none
| k+1,x2=>
 if x2<(a0.size:Int)then
  (sidx a0 x2).bind fun z1=>
  if z1<97 then
   (some false).bind fun r=>some (Sum.inr r)
  else
   (sidx a0 x2).bind fun z2=>
   if 122<z2 then
    (some false).bind fun r=>some (Sum.inr r)
   else
    (chk (x2+1)).bind fun z3=>
    tP a0 k z3
 else
  some (Sum.inl ())
def tH (AA:Nat) (a0:ByteArray):Option (Bool):=
 if (a0.size:Int)<1 then
  some false
 else
  if 8<(a0.size:Int)then
   some false
  else
   (tP a0 AA 0).bind fun o=>match o with
   | Sum.inr r=>some r
   | Sum.inl _=>
   (xI AA [{ data:=#[97,110,100] },{ data:=#[100,101,102] },{ data:=#[101,108,115,101] },{ data:=#[103,111] },{ data:=#[105,102] },{ data:=#[105,110] },{ data:=#[112,108,97,99,101] },{ data:=#[115,116,111,112] },{ data:=#[116,104,101,110] },{ data:=#[119,97,116,99,104] }] a0).bind fun y1=>
   some (!y1)
theorem aCc (AA:Nat)  (a0:ByteArray) (r:Bool) (H:tH AA a0=some r):FnS Tryz.prog 102 [fQ a0] [] (aH r) (fun _=>[]):=by
 unfold tH at H
 refine bS Tryz.func102 rfl Tryz.ntmps102 rfl (fun β=>?_)
 refine Z3 ?_
 refine aL ?_
 refine Z2 ?_
 refine Yy (tK rfl hh mQ) ?_
 refine I2 H (fun c1 H=>?_) fun c1 H=>?_
 refine Z10 ?_
 cases H
 exact To
 refine Z1 ?_
 refine Yg c1 (tK rfl hh mQ) ?_
 refine I3 H (fun c2 H=>?_) fun c2 H=>?_
 refine Z5 ?_
 cases H
 exact To
 revert H;refine B3z fun o1 H Hr1=>?_
 refine aQ (ι:=Unit) (fun i=>o1=Sum.inl ()) (fun i=>[(0,fQ a0)]) (fun i=>[]) ?_ ?_
 refine Z4 ?_
 refine Th (ι:=Int) (fun i=>tP a0 i.1 i.2=_) (fun i=>[(0,fQ a0),(3,fI i.2)]) (fun i=>[]) (AA,0) H (fun _ h=>nomatch h) ?_
 clear H;rintro k1 x2 H;dsimp only at H ⊢;rw [tP]at H
 refine aL ?_
 refine Z3 ?_
 refine Yy (tK rfl hh mQ) ?_
 revert H;refine I2z (fun c3 H=>?_) fun c3 H=>?_
 refine Z3 ?_
 refine aL ?_
 revert H;refine B4z fun z1 h1 H=>?_
 refine Yy (aA3 rfl hh hh mQ h1) ?_
 revert H;refine I2z (fun c4 H=>?_) fun c4 H=>?_
 refine Z12 ?_
 revert H;refine B4z fun r1 H e1=>?_
 cases e1;cases Hr1
 cases H
 exact To
 revert H;refine B2z fun z2 h2 H=>?_
 refine Yg c4 (aA3 rfl hh hh mQ h2) ?_
 revert H;refine I3z (fun c5 H=>?_) fun c5 H=>?_
 revert H;refine hO fun r2 H e2=>?_
 cases e2;cases Hr1
 cases H
 exact To
 revert H;refine B6z fun z3 h3 H=>?_
 refine Z3 ?_
 exact Tm ((k1,z3)) ⟨H,ls⟩
 refine Z6 ?_
 exact Tm (()) (ij H)
 rintro i hi;subst o1;replace H:=Hr1;clear Hr1;try dsimp only at H ⊢
 refine Z1 ?_
 refine Tn (gI (t:=aK) (xs:=[{ data:=#[97,110,100] },{ data:=#[100,101,102] },{ data:=#[101,108,115,101] },{ data:=#[103,111] },{ data:=#[105,102] },{ data:=#[105,110] },{ data:=#[112,108,97,99,101] },{ data:=#[115,116,111,112] },{ data:=#[116,104,101,110] },{ data:=#[119,97,116,99,104] }]) rfl (et rfl) (cE.cons rfl (has rfl) (cI (aG a1W)) (cE.cons rfl (has rfl) (cI (aG a1W)) (cE.cons rfl (has rfl) (cI (aG a1W)) (cE.cons rfl (has rfl) (cI (aG a1W)) (cE.cons rfl (has rfl) (cI (aG a1W)) (cE.cons rfl (has rfl) (cI (aG a1W)) (cE.cons rfl (has rfl) (cI (aG a1W)) (cE.cons rfl (has rfl) (cI (aG a1W)) (cE.cons rfl (has rfl) (cI (aG a1W)) (cE.cons rfl (has rfl) (cI (aG a1W)) cE.nil)))))))))) rfl rfl rfl) fun b1=>?_
 generalize (Value.slice (some ⟨b1,0,none⟩) _ _)=v1
 refine rc 0 fun _=>?_
 refine Z1 ?_
 refine dI (φ:=fSl aK [{ data:=#[97,110,100] },{ data:=#[100,101,102] },{ data:=#[101,108,115,101] },{ data:=#[103,111] },{ data:=#[105,102] },{ data:=#[105,110] },{ data:=#[112,108,97,99,101] },{ data:=#[115,116,111,112] },{ data:=#[116,104,101,110] },{ data:=#[119,97,116,99,104] }]) (v:=v1) [28] eT fz ?_
 refine dH ?_
 refine bz H fun y1 h4 H=>?_
 refine Tc (aKB _ _ _ _ h4) ?_
 refine Z4 ?_
 cases H
 exact To
open Go.SX Go.SW Go.Dt
def qD (a0:AN):Nat->Int->Option ((Unit) ⊕ (Bool))
| 0,_=>none
| k+1,x2=>
 if x2<(a0.AQ.length:Int)then
  (idx a0.AQ x2).bind fun y1=>
  if y1.At<0 then
   (some false).bind fun r=>some (Sum.inr r)
  else
   (idx a0.AQ x2).bind fun y2=>
   if (a0.AP.length:Int)<y2.At then
    (some false).bind fun r=>some (Sum.inr r)
   else
    (idx a0.AQ x2).bind fun y3=>
    if y3.Au<0 then
     (some false).bind fun r=>some (Sum.inr r)
    else
     (idx a0.AQ x2).bind fun y4=>
     if 3<y4.Au then
      (some false).bind fun r=>some (Sum.inr r)
     else
      (chk (x2+1)).bind fun z1=>
      qD a0 k z1
 else
  some (Sum.inl ())
def rO (a0:AN):Nat->Int->Option ((Unit) ⊕ (Bool))
| 0,_=>none
| k+1,x4=>
 if x4<(a0.AP.length:Int)then
  (idx a0.AP x4).bind fun y5=>
  if y5.In<0 then
   (some false).bind fun r=>some (Sum.inr r)
  else
   (idx a0.AP x4).bind fun y6=>
   if x4<y6.In then
    (some false).bind fun r=>some (Sum.inr r)
   else
    (chk (x4+1)).bind fun z2=>
    rO a0 k z2
 else
  some (Sum.inl ())
def qA (y8:Al) (x14:Int) (y9:Int):Nat->Int->Option ((Unit) ⊕ ((List Bool) ⊕ ((List Bool) ⊕ ((List Bool) ⊕ (Bool)))))
| 0,_=>none
| k+1,x17=>
 if x17<x14 then
  (idx y8.AZ x17).bind fun y11=>
  if y11=y9 then
   ((((some false).bind fun r=>some (Sum.inr r)).bind fun r=>some (Sum.inr r)).bind fun r=>some (Sum.inr r)).bind fun r=>some (Sum.inr r)
  else
   (chk (x17+1)).bind fun z3=>
   qA y8 x14 y9 k z3
 else
  some (Sum.inl ())
def mJ (AA:Nat) (a0:AN) (y8:Al):Nat->(List Bool)->Int->Option ((List Bool) ⊕ ((List Bool) ⊕ (Bool)))
| 0,_,_=>none
| k+1,x13,x14=>
 if x14<(y8.AZ.length:Int)then
  ((idx y8.AZ x14).bind fun y9=>
  if y9<0 then
   (((some false).bind fun r=>some (Sum.inr r)).bind fun r=>some (Sum.inr r)).bind fun r=>some (Sum.inr r)
  else
   if (a0.AQ.length:Int)<=y9 then
    (((some false).bind fun r=>some (Sum.inr r)).bind fun r=>some (Sum.inr r)).bind fun r=>some (Sum.inr r)
   else
    (idx a0.AQ y9).bind fun y10=>
    if y10.At≠y8.At then
     (((some false).bind fun r=>some (Sum.inr r)).bind fun r=>some (Sum.inr r)).bind fun r=>some (Sum.inr r)
    else
     (qA y8 x14 y9 AA 0).bind fun o=>match o with
     | Sum.inr r=>some r
     | Sum.inl _=>
     (idx x13 y9).bind fun y12=>
     some (Sum.inl (x13.set y9.toNat true))).bind fun o=>match o with
  | Sum.inr r=>some r
  | Sum.inl x15=>
  (chk (x14+1)).bind fun z4=>
  mJ AA a0 y8 k x15 z4
 else
  some (Sum.inl x13)
def oL (AA:Nat) (a0:AN):Nat->(List Bool)->Int->Option ((List Bool) ⊕ (Bool))
| 0,_,_=>none
| k+1,x8,x9=>
 if x9<(a0.AO.length:Int)then
  ((idx a0.AO x9).bind fun y8=>
  if y8.At<0 then
   ((some false).bind fun r=>some (Sum.inr r)).bind fun r=>some (Sum.inr r)
  else
   if (a0.AP.length:Int)<y8.At then
    ((some false).bind fun r=>some (Sum.inr r)).bind fun r=>some (Sum.inr r)
   else
    if (y8.AZ.length:Int)<1 then
     ((some false).bind fun r=>some (Sum.inr r)).bind fun r=>some (Sum.inr r)
    else
     if 3<(y8.AZ.length:Int)then
      ((some false).bind fun r=>some (Sum.inr r)).bind fun r=>some (Sum.inr r)
     else
      mJ AA a0 y8 AA x8 0).bind fun o=>match o with
  | Sum.inr r=>some r
  | Sum.inl x10=>
  (chk (x9+1)).bind fun z5=>
  oL AA a0 k x10 z5
 else
  some (Sum.inl x8)
def rV (x5:List Bool):Nat->Int->Option ((Unit) ⊕ (Bool))
| 0,_=>none
| k+1,x19=>
 if x19<(x5.length:Int)then
  (idx x5 x19).bind fun y13=>
  bif y13 then
   (chk (x19+1)).bind fun z6=>
   rV x5 k z6
  else
   (some false).bind fun r=>some (Sum.inr r)
 else
  some (Sum.inl ())
def yJ (AA:Nat) (a0:AN):Option (Bool):=
 if 30<(a0.AQ.length:Int)then
  some false
 else
  if 30<(a0.AP.length:Int)then
   some false
  else
   if 30<(a0.AO.length:Int)then
    some false
   else
    (qD a0 AA 0).bind fun o=>match o with
    | Sum.inr r=>some r
    | Sum.inl _=>
    (rO a0 AA 0).bind fun o=>match o with
    | Sum.inr r=>some r
    | Sum.inl _=>
    (mk false (a0.AQ.length:Int)).bind fun y7=>
    (oL AA a0 AA y7 0).bind fun o=>match o with
    | Sum.inr r=>some r
    | Sum.inl x5=>
    (rV x5 AA 0).bind fun o=>match o with
    | Sum.inr r=>some r
    | Sum.inl _=>
    some true
theorem aIy (AA:Nat)  (a0:AN) (r:Bool) (H:yJ AA a0=some r):FnS Tryz.prog 103 [fSt aB a0] [] (aH r) (fun _=>[]):=by
 unfold yJ at H
 refine bS Tryz.func103 rfl Tryz.ntmps103 rfl (fun β=>?_)
 refine Z1 ?_
 refine Tn (cA rfl hh bT) fun b1=>?_
 refine Z2 ?_
 refine aL ?_
 refine I6 H (fun c1 H=>?_) fun c1 H=>?_
 refine Z12 ?_
 refine Z5 ?_
 cases H
 refine aF [] (by decide) ?_
 exact To
 refine I6 H (fun c2 H=>?_) fun c2 H=>?_
 refine Z11 ?_
 cases H
 refine aF [] (by decide) ?_
 exact To
 refine I6 H (fun c3 H=>?_) fun c3 H=>?_
 refine Z5 ?_
 cases H
 refine aF [] (by decide) ?_
 exact To
 revert H;refine B3z fun o1 H Hr1=>?_
 refine aQ (ι:=Unit) (fun i=>o1=Sum.inl ()) (fun i=>[(1,fEq (ptr b1))]) (fun i=>[aA b1 63 [fSl bC a0.AQ,fSl bD a0.AP,fSl bB a0.AO]]) ?_ ?_
 refine Z4 ?_
 refine Th (ι:=Int) (fun i=>qD a0 i.1 i.2=_) (fun i=>[(1,fEq (ptr b1)),(3,fI i.2)]) (fun i=>[aA b1 63 [fSl bC a0.AQ,fSl bD a0.AP,fSl bB a0.AO]]) (AA,0) H (fun _ h=>nomatch h) ?_
 clear H;rintro k1 x2 H;dsimp only at H ⊢;rw [qD]at H
 refine aL ?_
 revert H;refine I7z (fun c4 H=>?_) fun c4 H=>?_
 refine Z3 ?_
 refine aL ?_
 refine Z1 ?_
 refine aL ?_
 revert H;refine bs fun y1 h1 H=>?_
 revert H;refine is (fun c5 H=>?_) fun c5 H=>?_
 apply bG (ods:=[_,_,_,_,_,_,_,_,_,_,_,_,_,_,_,_,_,_,_,_,_,_,_,_,_,_,_,_,_,_,_,_,_,_,_,_,_]) 37 0 1 bF rfl rfl rfl
 refine ND ?_
 refine M3 ?_
 intros
 refine My (eH rfl hh hh (el rfl) h1) fun _=>?_
 refine M8 ?_
 intros
 refine M8 ?_
 intros
 refine M8 ?_
 intros
 refine M8 ?_
 intros
 refine M1 ?_
 intros
 revert H;refine B12z fun r1 H e1=>?_
 cases e1;cases Hr1
 cases H
 refine aF [] (by decide) ?_
 exact To
 exact fk
 kernel_rfl
 revert H;refine bs fun y2 h2 H=>?_
 revert H;refine is (fun c6 H=>?_) fun c6 H=>?_
 apply bG (ods:=[_,_,_,_,_,_,_,_,_,_,_,_,_,_,_,_,_,_,_,_,_,_,_,_,_,_,_,_,_,_,_,_,_,_,_,_,_]) 37 0 1 bF rfl rfl rfl
 refine ND ?_
 refine M3 ?_
 intros
 refine My (eH rfl hh hh (el rfl) h1) fun _=>?_
 refine M7 ?_
 intros
 refine Mg c5 (eH rfl hh hh (el rfl) h2) fun _=>?_
 refine M8 ?_
 intros
 refine M8 ?_
 intros
 refine M8 ?_
 intros
 refine M1 ?_
 intros
 revert H;refine B12z fun r2 H e2=>?_
 cases e2;cases Hr1
 cases H
 refine aF [] (by decide) ?_
 exact To
 exact fk
 kernel_rfl
 revert H;refine bs fun y3 h3 H=>?_
 revert H;refine is (fun c7 H=>?_) fun c7 H=>?_
 apply bG (ods:=[_,_,_,_,_,_,_,_,_,_,_,_,_,_,_,_,_,_,_,_,_,_,_,_,_,_,_,_,_,_,_,_,_,_,_,_,_]) 37 0 1 bF rfl rfl rfl
 refine ND ?_
 refine M3 ?_
 intros
 refine My (eH rfl hh hh (el rfl) h1) fun _=>?_
 refine M7 ?_
 intros
 refine Mg c5 (eH rfl hh hh (el rfl) h2) fun _=>?_
 refine M8 ?_
 intros
 refine M3 ?_
 intros
 refine Mg c6 (eH rfl hh hh (el rfl) h3) fun _=>?_
 refine M8 ?_
 intros
 refine M5 ?_
 intros
 revert H;refine B12z fun r3 H e3=>?_
 cases e3;cases Hr1
 cases H
 refine aF [] (by decide) ?_
 exact To
 exact fk
 kernel_rfl
 revert H;refine bs fun y4 h4 H=>?_
 apply bG (ods:=[_,_,_,_,_,_,_,_,_,_,_,_,_,_,_,_,_,_,_,_,_,_,_,_,_,_,_,_,_,_,_,_,_,_,_,_,_]) 37 0 1 bF rfl rfl rfl
 refine ND ?_
 refine M3 ?_
 intros
 refine My (eH rfl hh hh (el rfl) h1) fun _=>?_
 refine M7 ?_
 intros
 refine Mg c5 (eH rfl hh hh (el rfl) h2) fun _=>?_
 refine M8 ?_
 intros
 refine M3 ?_
 intros
 refine Mg c6 (eH rfl hh hh (el rfl) h3) fun _=>?_
 refine M8 ?_
 intros
 refine M5 ?_
 intros
 revert H;refine I2z (fun c8 H=>?_) fun c8 H=>?_
 revert H;refine hO fun r4 H e4=>?_
 cases e4;cases Hr1
 cases H
 refine aF [] (by decide) ?_
 exact To
 revert H;refine B6z fun z1 h5 H=>?_
 refine Z3 ?_
 exact Tm ((k1,z1)) ⟨H,ls⟩
 exact fk
 kernel_rfl
 refine Z6 ?_
 exact Tm (()) (ij H)
 rintro i hi;subst o1;replace H:=Hr1;clear Hr1;try dsimp only at H ⊢
 revert H;refine bs fun o2 H Hr2=>?_
 refine aQ (ι:=Unit) (fun i=>o2=Sum.inl ()) (fun i=>[(1,fEq (ptr b1))]) (fun i=>[aA b1 63 [fSl bC a0.AQ,fSl bD a0.AP,fSl bB a0.AO]]) ?_ ?_
 refine Z4 ?_
 refine Th (ι:=Int) (fun i=>rO a0 i.1 i.2=_) (fun i=>[(1,fEq (ptr b1)),(4,fI i.2)]) (fun i=>[aA b1 63 [fSl bC a0.AQ,fSl bD a0.AP,fSl bB a0.AO]]) (AA,0) H (fun _ h=>nomatch h) ?_
 clear H;rintro k2 x4 H;dsimp only at H ⊢;rw [rO]at H
 refine aL ?_
 revert H;refine I7z (fun c9 H=>?_) fun c9 H=>?_
 refine Z3 ?_
 refine aL ?_
 revert H;refine B5z fun y5 h6 H=>?_
 refine Yy (eH rfl hh hh (el rfl) h6) ?_
 revert H;refine I4z (fun c10 H=>?_) fun c10 H=>?_
 refine Z12 ?_
 revert H;refine B8z fun r5 H e5=>?_
 cases e5;cases Hr2
 cases H
 refine aF [] (by decide) ?_
 exact To
 revert H;refine B3z fun y6 h7 H=>?_
 revert H;refine I7z (fun c11 H=>?_) fun c11 H=>?_
 revert H;refine hO fun r6 H e6=>?_
 cases e6;cases Hr2
 cases H
 refine aF [] (by decide) ?_
 exact To
 revert H;refine B6z fun z2 h8 H=>?_
 refine Z3 ?_
 exact Tm ((k2,z2)) ⟨H,ls⟩
 refine Z6 ?_
 exact Tm (()) (ij H)
 rintro i hi;subst o2;replace H:=Hr2;clear Hr2;try dsimp only at H ⊢
 refine B4 H fun y7 h9 H=>?_
 refine Tn (oY (t:=bW) (z:=false) rfl hh (et rfl) rfl aA2 rfl h9) fun b2=>?_
 generalize (Value.slice (some ⟨b2,0,none⟩) _ _)=v1
 refine rc 0 fun _=>?_
 revert H;refine B2z fun o3 H Hr3=>?_
 refine aQ (fun i=>o3=Sum.inl i) (fun i=>[(5,fEq v1)]) (fun i=>[aA b1 63 [fSl bC a0.AQ,fSl bD a0.AP,fSl bB a0.AO],aD v1 4 bW i]) ?_ ?_
 refine Z4 ?_
 refine aF [1,0] (by decide) ?_
 refine Th (ι:=List Bool × Int) (fun i=>oL AA a0 i.1 i.2.1 i.2.2=_) (fun i=>[(1,fEq (ptr b1)),(5,fEq v1),(6,fI i.2.2)]) (fun i=>[aA b1 63 [fSl bC a0.AQ,fSl bD a0.AP,fSl bB a0.AO],aD v1 4 bW i.2.1]) (AA,y7,0) H (fun _ h=>nomatch h) ?_
 clear H;rintro k3 ⟨x8,x9⟩ H;dsimp only at H ⊢;rw [oL]at H
 refine aL ?_
 revert H;refine I7z (fun c12 H=>?_) fun c12 H=>?_
 revert H;refine B3z fun o4 H Hr4=>?_
 refine aQ (fun i=>o4=Sum.inl i) (fun i=>[(1,fEq (ptr b1)),(5,fEq v1),(6,fI x9)]) (fun i=>[aA b1 63 [fSl bC a0.AQ,fSl bD a0.AP,fSl bB a0.AO],aD v1 4 bW i]) ?_ ?_
 revert H;refine B5z fun y8 h10 H=>?_
 refine Z2 ?_
 refine Tn (cF rfl mF rfl) fun b3=>?_
 refine cM (φs':=[fI y8.At,fSl tI y8.AZ,fI y8.AU]) a1W rfl rfl (has rfl) (has rfl) (aI (aG a1W) (aI (bR) (aI (aG a1W) bM))) (sz rfl) rfl rfl rfl ?_
 refine Z1 ?_
 refine aL ?_
 revert H;refine I5z (fun c13 H=>?_) fun c13 H=>?_
 refine Z12 ?_
 refine Z12 ?_
 revert H;refine B3z fun r7 H e7=>?_
 cases e7;cases Hr4
 revert H;refine B3z fun r8 H e8=>?_
 cases e8;cases Hr3
 cases H
 refine aF [] (by decide) ?_
 exact To
 revert H;refine I8z (fun c14 H=>?_) fun c14 H=>?_
 refine Z12 ?_
 revert H;refine B7z fun r9 H e9=>?_
 cases e9;cases Hr4
 revert H;refine B3z fun r10 H e10=>?_
 cases e10;cases Hr3
 cases H
 refine aF [] (by decide) ?_
 exact To
 revert H;refine I6z (fun c15 H=>?_) fun c15 H=>?_
 refine Z12 ?_
 revert H;refine B1z fun r11 H e11=>?_
 cases e11;cases Hr4
 revert H;refine B3z fun r12 H e12=>?_
 cases e12;cases Hr3
 cases H
 refine aF [] (by decide) ?_
 exact To
 revert H;refine I6z (fun c16 H=>?_) fun c16 H=>?_
 revert H;refine B7z fun r13 H e13=>?_
 cases e13;cases Hr4
 revert H;refine B3z fun r14 H e14=>?_
 cases e14;cases Hr3
 cases H
 refine aF [] (by decide) ?_
 exact To
 refine Z7 ?_
 refine Th (ι:=List Bool × Int) (fun i=>mJ AA a0 y8 i.1 i.2.1 i.2.2=_) (fun i=>[(1,fEq (ptr b1)),(5,fEq v1),(6,fI x9),(7,fEq (ptr b3)),(8,fI i.2.2)]) (fun i=>[aA b3 114 [fI y8.At,fSl tI y8.AZ,fI y8.AU],aA b1 63 [fSl bC a0.AQ,fSl bD a0.AP,fSl bB a0.AO],aD v1 4 bW i.2.1]) (AA,x8,0) H (fun _ h=>nomatch h) ?_
 clear H;rintro k4 ⟨x13,x14⟩ H;dsimp only at H ⊢;rw [mJ]at H
 refine aL ?_
 revert H;refine I7z (fun c17 H=>?_) fun c17 H=>?_
 revert H;refine B3z fun o5 H Hr5=>?_
 refine aQ (fun i=>o5=Sum.inl i) (fun i=>[(1,fEq (ptr b1)),(5,fEq v1),(6,fI x9),(7,fEq (ptr b3)),(8,fI x14)]) (fun i=>[aA b3 114 [fI y8.At,fSl tI y8.AZ,fI y8.AU],aA b1 63 [fSl bC a0.AQ,fSl bD a0.AP,fSl bB a0.AO],aD v1 4 bW i]) ?_ ?_
 revert H;refine B5z fun y9 h11 H=>?_
 refine Z4 ?_
 refine aL ?_
 refine aL ?_
 revert H;refine is (fun c18 H=>?_) fun c18 H=>?_
 apply bG (ods:=[_,_,_,_,_,_,_,_,_,_,_,_,_,_,_,_,_,_,_,_]) 20 0 3 bF rfl rfl rfl
 refine ND ?_
 refine M8 ?_
 intros
 refine M8 ?_
 intros
 refine M4 ?_
 intros
 revert H;refine B9z fun r15 H e15=>?_
 cases e15;cases Hr5
 revert H;refine B4z fun r16 H e16=>?_
 cases e16;cases Hr4
 revert H;refine B3z fun r17 H e17=>?_
 cases e17;cases Hr3
 cases H
 refine aF [] (by decide) ?_
 exact To
 exact fk
 kernel_rfl
 revert H;refine is (fun c19 H=>?_) fun c19 H=>?_
 apply bG (ods:=[_,_,_,_,_,_,_,_,_,_,_,_,_,_,_,_,_,_,_,_]) 20 0 3 bF rfl rfl rfl
 refine ND ?_
 refine M8 ?_
 intros
 refine M8 ?_
 intros
 refine M4 ?_
 intros
 revert H;refine B9z fun r18 H e18=>?_
 cases e18;cases Hr5
 revert H;refine B4z fun r19 H e19=>?_
 cases e19;cases Hr4
 revert H;refine B3z fun r20 H e20=>?_
 cases e20;cases Hr3
 cases H
 refine aF [] (by decide) ?_
 exact To
 exact fk
 kernel_rfl
 revert H;refine bs fun y10 h12 H=>?_
 apply bG (ods:=[_,_,_,_,_,_,_,_,_,_,_,_,_,_,_,_,_,_,_,_]) 20 0 3 bF rfl rfl rfl
 refine ND ?_
 refine M8 ?_
 intros
 refine M8 ?_
 intros
 refine M4 ?_
 intros
 revert H;refine I2z (fun c20 H=>?_) fun c20 H=>?_
 revert H;refine B7z fun r21 H e21=>?_
 cases e21;cases Hr5
 revert H;refine B4z fun r22 H e22=>?_
 cases e22;cases Hr4
 revert H;refine B3z fun r23 H e23=>?_
 cases e23;cases Hr3
 cases H
 refine aF [] (by decide) ?_
 exact To
 revert H;refine B3z fun o6 H Hr6=>?_
 refine aQ (ι:=Unit) (fun i=>o6=Sum.inl ()) (fun i=>[(1,fEq (ptr b1)),(5,fEq v1),(6,fI x9),(7,fEq (ptr b3)),(8,fI x14),(9,fI y9)]) (fun i=>[aA b3 114 [fI y8.At,fSl tI y8.AZ,fI y8.AU],aA b1 63 [fSl bC a0.AQ,fSl bD a0.AP,fSl bB a0.AO],aD v1 4 bW x13]) ?_ ?_
 refine Z4 ?_
 refine Th (ι:=Int) (fun i=>qA y8 x14 y9 i.1 i.2=_) (fun i=>[(1,fEq (ptr b1)),(5,fEq v1),(6,fI x9),(7,fEq (ptr b3)),(8,fI x14),(9,fI y9),(10,fI i.2)]) (fun i=>[aA b3 114 [fI y8.At,fSl tI y8.AZ,fI y8.AU],aA b1 63 [fSl bC a0.AQ,fSl bD a0.AP,fSl bB a0.AO],aD v1 4 bW x13]) (AA,0) H (fun _ h=>nomatch h) ?_
 clear H;rintro k5 x17 H;dsimp only at H ⊢;rw [qA]at H
 refine aL ?_
 revert H;refine I5z (fun c21 H=>?_) fun c21 H=>?_
 refine Z3 ?_
 refine aL ?_
 revert H;refine B5z fun y11 h13 H=>?_
 revert H;refine I5z (fun c22 H=>?_) fun c22 H=>?_
 revert H;refine hO fun r24 H e24=>?_
 cases e24;cases Hr6
 revert H;refine B2z fun r25 H e25=>?_
 cases e25;cases Hr5
 revert H;refine B4z fun r26 H e26=>?_
 cases e26;cases Hr4
 revert H;refine B3z fun r27 H e27=>?_
 cases e27;cases Hr3
 cases H
 refine aF [] (by decide) ?_
 exact To
 revert H;refine B6z fun z3 h14 H=>?_
 refine Z3 ?_
 exact Tm ((k5,z3)) ⟨H,ls⟩
 refine Z6 ?_
 exact Tm (()) (ij H)
 rintro i hi;subst o6;replace H:=Hr6;clear Hr6;try dsimp only at H ⊢
 revert H;refine B3z fun y12 h15 H=>?_
 refine Z1 ?_
 refine aM ?_
 refine aBl (z':=true) a1W rfl rfl rfl (has rfl) (has rfl) (aG a1W) (sz rfl) (idx_get h15) rfl rfl ?_
 refine Z3 ?_
 refine aF [1,2,0] (by decide) ?_
 exact Tm (x13.set y9.toNat true) (ij H)
 exact fk
 kernel_rfl
 rintro x15 hi;subst o5;replace H:=Hr5;clear Hr5;try dsimp only at H ⊢
 revert H;refine B2z fun z4 h16 H=>?_
 refine Z3 ?_
 exact Tm ((k4,x15,z4)) ⟨H,ls⟩
 refine Z7 ?_
 refine aF [1,2] (by decide) ?_
 exact Tm (x13) (ij H)
 rintro x10 hi;subst o4;replace H:=Hr4;clear Hr4;try dsimp only at H ⊢
 revert H;refine B2z fun z5 h17 H=>?_
 refine Z3 ?_
 exact Tm ((k3,x10,z5)) ⟨H,ls⟩
 refine Z6 ?_
 exact Tm (x8) (ij H)
 rintro x5 hi;subst o3;replace H:=Hr3;clear Hr3;try dsimp only at H ⊢
 revert H;refine bs fun o7 H Hr7=>?_
 refine aQ (ι:=Unit) (fun i=>o7=Sum.inl ()) (fun i=>[]) (fun i=>[aA b1 63 [fSl bC a0.AQ,fSl bD a0.AP,fSl bB a0.AO]]) ?_ ?_
 refine Z4 ?_
 refine Th (ι:=Int) (fun i=>rV x5 i.1 i.2=_) (fun i=>[(5,fEq v1),(11,fI i.2)]) (fun i=>[aA b1 63 [fSl bC a0.AQ,fSl bD a0.AP,fSl bB a0.AO],aD v1 4 bW x5]) (AA,0) H (fun _ h=>nomatch h) ?_
 clear H;rintro k6 x19 H;dsimp only at H ⊢;rw [rV]at H
 refine aL ?_
 revert H;refine I6z (fun c23 H=>?_) fun c23 H=>?_
 refine Z3 ?_
 refine aL ?_
 revert H;refine B4z fun y13 h18 H=>?_
 refine Z1 ?_
 refine Yo 1 rfl (jE rfl rfl hh (sc rfl) (idx_get h18) rfl) ?_
 refine Z2 ?_
 revert H;refine cs (fun c24 H=>?_) fun c24 H=>?_
 revert H;refine B6z fun z6 h19 H=>?_
 refine Z3 ?_
 exact Tm ((k6,z6)) ⟨H,ls⟩
 revert H;refine hO fun r28 H e28=>?_
 cases e28;cases Hr7
 cases H
 refine aF [] (by decide) ?_
 exact To
 refine Z6 ?_
 refine aF [0] (by decide) ?_
 exact Tm (()) (ij H)
 rintro i hi;subst o7;replace H:=Hr7;clear Hr7;try dsimp only at H ⊢
 refine Z4 ?_
 cases H
 refine aF [] (by decide) ?_
 exact To
open Go.SX Go.SW Go.Dt
def uH (a0:Int):Option (Int × Int × Bool):=
 (if a0=1 then
  some (decide (a0=1))
 else
  some (decide (a0=7))).bind fun x1=>
 bif x1 then
  some (0,0,true)
 else
  if a0=2 then
   some ((-1),0,true)
  else
   if a0=3 then
    some (0,2,true)
   else
    if a0=5 then
     some (1,2,true)
    else
     (if a0=4 then
      some (decide (a0=4))
     else
      if a0=6 then
       some (decide (a0=6))
      else
       some (decide (a0=8))).bind fun x2=>
     bif x2 then
      some (0,1,true)
     else
      some (0,0,false)
theorem aJX  (a0:Int) (r:Int × Int × Bool) (H:uH a0=some r):FnS Tryz.prog 134 [fI a0] [] (dA [fI r.1,fI r.2.1,aH r.2.2]) (fun _=>[]):=by
 unfold uH at H
 refine bS Tryz.func134 rfl Tryz.ntmps134 rfl (fun β=>?_)
 refine Z5 ?_
 refine aL ?_
 revert H;refine B4z fun o1 H Hr1=>?_
 refine aQ (fun i=>o1=i) (fun i=>[(5,fI a0),(6,aH i)]) (fun i=>[]) ?_ ?_
 revert H;refine I4z (fun c1 H=>?_) fun c1 H=>?_
 refine Z3 ?_
 exact Tm (decide (a0=1)) (ij H)
 refine Z5 ?_
 exact Tm (decide (a0=7)) (ij H)
 rintro x1 hi;subst o1;replace H:=Hr1;clear Hr1;try dsimp only at H ⊢
 refine cz H (fun c2 H=>?_) fun c2 H=>?_
 refine Z9 ?_
 cases H
 exact uY rfl (dS rfl) (dS rfl) (dS rfl) rfl
 refine I5 H (fun c3 H=>?_) fun c3 H=>?_
 refine Z9 ?_
 cases H
 exact uY rfl (dS rfl) (dS rfl) (dS rfl) rfl
 refine I5 H (fun c4 H=>?_) fun c4 H=>?_
 refine Z9 ?_
 cases H
 exact uY rfl (dS rfl) (dS rfl) (dS rfl) rfl
 refine I5 H (fun c5 H=>?_) fun c5 H=>?_
 refine Z9 ?_
 cases H
 exact uY rfl (dS rfl) (dS rfl) (dS rfl) rfl
 revert H;refine B1z fun o2 H Hr2=>?_
 refine aQ (fun i=>o2=i) (fun i=>[(15,aH i)]) (fun i=>[]) ?_ ?_
 revert H;refine I4z (fun c6 H=>?_) fun c6 H=>?_
 refine Z3 ?_
 exact Tm (decide (a0=4)) (ij H)
 revert H;refine I5z (fun c7 H=>?_) fun c7 H=>?_
 refine Z3 ?_
 exact Tm (decide (a0=6)) (ij H)
 refine Z5 ?_
 exact Tm (decide (a0=8)) (ij H)
 rintro x2 hi;subst o2;replace H:=Hr2;clear Hr2;try dsimp only at H ⊢
 refine cz H (fun c8 H=>?_) fun c8 H=>?_
 refine Z9 ?_
 cases H
 exact uY rfl (dS rfl) (dS rfl) (dS rfl) rfl
 refine Z10 ?_
 cases H
 exact uY rfl (dS rfl) (dS rfl) (dS rfl) rfl
def sL (rec_r03_expNodes:Ah->Int->Option (Int)) (a0:Ah) (a1:Int):Nat->Int->Int->Option (Int)
| 0,_,_=>none
| k+1,x4,x5=>
 if x5<(a0.AW.length:Int)then
  if x4<=a1 then
   (idx a0.AW x5).bind fun y1=>
   (chk (a1 - x4)).bind fun z1=>
   (rec_r03_expNodes y1 z1).bind fun y2=>
   (chk (x4+y2)).bind fun z2=>
   (chk (x5+1)).bind fun z3=>
   sL rec_r03_expNodes a0 a1 k z2 z3
  else
   some x4
 else
  some x4
def nF:Nat->Ah->Int->Option (Int)
| 0,_,_=>none
| AA+1,a0,a1=>
 (sL (nF AA) a0 a1 AA 1 0).bind fun x1=>
 some x1
theorem aH2:∀ (AA:Nat),(∀  (a0:Ah) (a1:Int) (r:Int) (H:nF AA a0 a1=some r),FnS Tryz.prog 153 [fSt cZ a0,fI a1] [] (fI r) (fun _=>[])):=by
 intro AA
 induction AA with
 | zero=>exact fun a0 a1 r H=>(by rw [nF]at H;cases H)
 | succ AA ih=>
 have ih_r03_expNodes:=@ih
 refine ?_
 intro a0 a1 r H
 rw [nF]at H
 refine bS Tryz.func153 rfl Tryz.ntmps153 rfl (fun β=>?_)
 refine Z1 ?_
 refine Tn (cA rfl hh bT) fun b1=>?_
 revert H;refine B5z fun o1 H Hr1=>?_
 refine aQ (fun i=>o1=i) (fun i=>[(5,fI i)]) (fun i=>[aA b1 143 [fI a0.Op,fI a0.N,gC a0.AW]]) ?_ ?_
 refine Z4 ?_
 refine Th (ι:=Int × Int) (fun i=>sL (nF AA) a0 a1 i.1 i.2.1 i.2.2=_) (fun i=>[(1,fI a1),(2,fEq (ptr b1)),(5,fI i.2.1),(6,fI i.2.2)]) (fun i=>[aA b1 143 [fI a0.Op,fI a0.N,gC a0.AW]]) (AA,1,0) H (fun _ h=>nomatch h) ?_
 clear H;rintro k1 ⟨x4,x5⟩ H;dsimp only at H ⊢;rw [sL]at H
 refine aL ?_
 refine Z3 ?_
 refine Yo 0 rfl (gY rfl hh (sc rfl) rfl (iK gZ)) ?_
 revert H;refine I3z (fun c1 H=>?_) fun c1 H=>?_
 revert H;refine I5z (fun c2 H=>?_) fun c2 H=>?_
 refine Z3 ?_
 refine aL ?_
 refine Z4 ?_
 refine Yo 0 rfl (gY rfl hh (sc rfl) rfl (iK gZ)) ?_
 revert H;refine B1z fun y1 h1 H=>?_
 revert H;refine B4z fun z1 h2 H=>?_
 revert H;refine B1z fun y2 h3 H=>?_
 refine Tc (ih_r03_expNodes _ _ _ h3) ?_
 revert H;refine bs fun z2 h4 H=>?_
 revert H;refine B7z fun z3 h5 H=>?_
 refine Z3 ?_
 exact Tm ((k1,z2,z3)) ⟨H,ls⟩
 refine Z6 ?_
 exact Tm (x4) (ij H)
 refine Z11 ?_
 exact Tm (x4) (ij H)
 rintro x1 hi;subst o1;replace H:=Hr1;clear Hr1;try dsimp only at H ⊢
 refine Z5 ?_
 cases H
 refine aF [] (by decide) ?_
 exact To
def pZ (rec_r03_expDepth:Ah->Option (Int)) (a0:Ah):Nat->Int->Int->Option (Int)
| 0,_,_=>none
| k+1,x4,x5=>
 if x5<(a0.AW.length:Int)then
  (idx a0.AW x5).bind fun y1=>
  (rec_r03_expDepth y1).bind fun y2=>
  (chk (x5+1)).bind fun z1=>
  pZ rec_r03_expDepth a0 k (max x4 y2) z1
 else
  some x4
def nH:Nat->Ah->Option (Int)
| 0,_=>none
| AA+1,a0=>
 (pZ (nH AA) a0 AA 0 0).bind fun x1=>
 (chk (x1+1)).bind fun z2=>
 some z2
theorem aLi:∀ (AA:Nat),(∀  (a0:Ah) (r:Int) (H:nH AA a0=some r),FnS Tryz.prog 154 [fSt cZ a0] [] (fI r) (fun _=>[])):=by
 intro AA
 induction AA with
 | zero=>exact fun a0 r H=>(by rw [nH]at H;cases H)
 | succ AA ih=>
 have ih_r03_expDepth:=@ih
 refine ?_
 intro a0 r H
 rw [nH]at H
 refine bS Tryz.func154 rfl Tryz.ntmps154 rfl (fun β=>?_)
 refine Z1 ?_
 refine Tn (cA rfl hh bT) fun b1=>?_
 revert H;refine B5z fun o1 H Hr1=>?_
 refine aQ (fun i=>o1=i) (fun i=>[(3,fI i)]) (fun i=>[aA b1 143 [fI a0.Op,fI a0.N,gC a0.AW]]) ?_ ?_
 refine Z4 ?_
 refine Th (ι:=Int × Int) (fun i=>pZ (nH AA) a0 i.1 i.2.1 i.2.2=_) (fun i=>[(1,fEq (ptr b1)),(3,fI i.2.1),(4,fI i.2.2)]) (fun i=>[aA b1 143 [fI a0.Op,fI a0.N,gC a0.AW]]) (AA,0,0) H (fun _ h=>nomatch h) ?_
 clear H;rintro k1 ⟨x4,x5⟩ H;dsimp only at H ⊢;rw [pZ]at H
 refine aL ?_
 refine Z3 ?_
 refine Yo 0 rfl (gY rfl hh (sc rfl) rfl (iK gZ)) ?_
 revert H;refine I3z (fun c1 H=>?_) fun c1 H=>?_
 refine Z3 ?_
 refine aL ?_
 refine Z4 ?_
 refine Yo 0 rfl (gY rfl hh (sc rfl) rfl (iK gZ)) ?_
 revert H;refine B1z fun y1 h1 H=>?_
 revert H;refine B2z fun y2 h2 H=>?_
 refine Tc (ih_r03_expDepth _ _ h2) ?_
 refine Yy (o_max rfl hh hh) ?_
 revert H;refine B6z fun z1 h3 H=>?_
 refine Z3 ?_
 exact Tm ((k1,max x4 y2,z1)) ⟨H,ls⟩
 refine Z6 ?_
 exact Tm (x4) (ij H)
 rintro x1 hi;subst o1;replace H:=Hr1;clear Hr1;try dsimp only at H ⊢
 refine B2 H fun z2 h4 H=>?_
 refine Z4 ?_
 cases H
 refine aF [] (by decide) ?_
 exact To
def pQ:Nat->Ah->Int->Option (Bool)
| 0,_,_=>none
| AA+1,a0,a1=>
 if a0.Op=1 then
  (if (a0.AW.length:Int)=0 then
   if (-1000000000)<=a0.N then
    some (decide (a0.N<=1000000000))
   else
    some false
  else
   some false).bind fun x1=>
  some x1
 else
  if a0.Op=2 then
   (if (a0.AW.length:Int)=0 then
    if 0<=a0.N then
     some (decide (a0.N<a1))
    else
     some false
   else
    some false).bind fun x2=>
   some x2
  else
   if a0.Op<3 then
    some false
   else
    if 7<a0.Op then
     some false
    else
     if (a0.AW.length:Int)≠2 then
      some false
     else
      if a0.N≠0 then
       some false
      else
       ((idx a0.AW 0).bind fun y1=>
       ((pQ AA) y1 a1).bind fun y2=>
       bif y2 then
        (idx a0.AW 1).bind fun y3=>
        ((pQ AA) y3 a1).bind fun y4=>
        some y4
       else
        some false).bind fun x3=>
       some x3
theorem aKr:∀ (AA:Nat),(∀  (a0:Ah) (a1:Int) (r:Bool) (H:pQ AA a0 a1=some r),FnS Tryz.prog 155 [fSt cZ a0,fI a1] [] (aH r) (fun _=>[])):=by
 intro AA
 induction AA with
 | zero=>exact fun a0 a1 r H=>(by rw [pQ]at H;cases H)
 | succ AA ih=>
 have ih_r03_expFormed:=@ih
 refine ?_
 intro a0 a1 r H
 rw [pQ]at H
 refine bS Tryz.func155 rfl Tryz.ntmps155 rfl (fun β=>?_)
 refine Z1 ?_
 refine Tn (cA rfl hh bT) fun b1=>?_
 refine Z2 ?_
 refine aL ?_
 refine I7 H (fun c1 H=>?_) fun c1 H=>?_
 revert H;refine B1z fun o1 H Hr1=>?_
 refine aQ (fun i=>o1=i) (fun i=>[(4,aH i)]) (fun i=>[aA b1 143 [fI a0.Op,fI a0.N,gC a0.AW]]) ?_ ?_
 refine Z2 ?_
 refine Yo 0 rfl (gY rfl hh (sc rfl) rfl (iK gZ)) ?_
 revert H;refine I3z (fun c2 H=>?_) fun c2 H=>?_
 revert H;refine I5z (fun c3 H=>?_) fun c3 H=>?_
 refine Z6 ?_
 exact Tm (decide (a0.N<=1000000000)) (ij H)
 refine Z6 ?_
 exact Tm (false) (ij H)
 refine Z11 ?_
 exact Tm (false) (ij H)
 rintro x1 hi;subst o1;replace H:=Hr1;clear Hr1;try dsimp only at H ⊢
 refine Z3 ?_
 cases H
 refine aF [] (by decide) ?_
 exact To
 refine I7 H (fun c4 H=>?_) fun c4 H=>?_
 revert H;refine B1z fun o2 H Hr2=>?_
 refine aQ (fun i=>o2=i) (fun i=>[(4,aH i)]) (fun i=>[aA b1 143 [fI a0.Op,fI a0.N,gC a0.AW]]) ?_ ?_
 refine Z2 ?_
 refine Yo 0 rfl (gY rfl hh (sc rfl) rfl (iK gZ)) ?_
 revert H;refine I3z (fun c5 H=>?_) fun c5 H=>?_
 revert H;refine I5z (fun c6 H=>?_) fun c6 H=>?_
 refine Z7 ?_
 exact Tm (decide (a0.N<a1)) (ij H)
 refine Z7 ?_
 exact Tm (false) (ij H)
 refine Z12 ?_
 exact Tm (false) (ij H)
 rintro x2 hi;subst o2;replace H:=Hr2;clear Hr2;try dsimp only at H ⊢
 refine Z3 ?_
 cases H
 refine aF [] (by decide) ?_
 exact To
 refine I6 H (fun c7 H=>?_) fun c7 H=>?_
 refine Z12 ?_
 refine Z12 ?_
 cases H
 refine aF [] (by decide) ?_
 exact To
 refine I5 H (fun c8 H=>?_) fun c8 H=>?_
 refine Z12 ?_
 refine Z7 ?_
 cases H
 refine aF [] (by decide) ?_
 exact To
 refine Z1 ?_
 refine Yh 0 rfl c8 (gY rfl hh (sc rfl) rfl (iK gZ)) ?_
 refine I4 H (fun c9 H=>?_) fun c9 H=>?_
 refine Z12 ?_
 refine Z1 ?_
 cases H
 refine aF [] (by decide) ?_
 exact To
 refine I6 H (fun c10 H=>?_) fun c10 H=>?_
 refine Z7 ?_
 cases H
 refine aF [] (by decide) ?_
 exact To
 revert H;refine B4z fun o3 H Hr3=>?_
 refine aQ (fun i=>o3=i) (fun i=>[(4,aH i)]) (fun i=>[aA b1 143 [fI a0.Op,fI a0.N,gC a0.AW]]) ?_ ?_
 refine Z2 ?_
 refine Yo 0 rfl (gY rfl hh (sc rfl) rfl (iK gZ)) ?_
 revert H;refine bs fun y1 h1 H=>?_
 revert H;refine B3z fun y2 h2 H=>?_
 refine Tc (ih_r03_expFormed _ _ _ h2) ?_
 refine Z1 ?_
 revert H;refine cs (fun c11 H=>?_) fun c11 H=>?_
 refine Z1 ?_
 refine Yh 0 rfl c11 (gY rfl hh (sc rfl) rfl (iK gZ)) ?_
 revert H;refine bs fun y3 h3 H=>?_
 revert H;refine B3z fun y4 h4 H=>?_
 refine Tc (ih_r03_expFormed _ _ _ h4) ?_
 refine Z3 ?_
 exact Tm (y4) (ij H)
 refine Z9 ?_
 exact Tm (false) (ij H)
 rintro x3 hi;subst o3;replace H:=Hr3;clear Hr3;try dsimp only at H ⊢
 refine Z1 ?_
 cases H
 refine aF [] (by decide) ?_
 exact To
def xF (AA:Nat) (a0:Ah) (a1:Int):Option (Bool):=
 ((nF AA (⟨a0.Op,a0.N,a0.AW⟩:Ah) 60).bind fun y1=>
 if y1<=60 then
  (nH AA (⟨a0.Op,a0.N,a0.AW⟩:Ah)).bind fun y2=>
  if y2<=12 then
   (pQ AA (⟨a0.Op,a0.N,a0.AW⟩:Ah) a1).bind fun y3=>
   some y3
  else
   some false
 else
  some false).bind fun x1=>
 some x1
theorem aIO (AA:Nat)  (a0:Ah) (a1:Int) (r:Bool) (H:xF AA a0 a1=some r):FnS Tryz.prog 135 [fSt cZ a0,fI a1] [] (aH r) (fun _=>[]):=by
 unfold xF at H
 refine bS Tryz.func135 rfl Tryz.ntmps135 rfl (fun β=>?_)
 refine Z1 ?_
 refine Tn (cA rfl hh bT) fun b1=>?_
 revert H;refine B2z fun o1 H Hr1=>?_
 refine aQ (fun i=>o1=i) (fun i=>[(4,aH i)]) (fun i=>[aA b1 143 [fI a0.Op,fI a0.N,gC a0.AW]]) ?_ ?_
 revert H;refine B2z fun y1 h1 H=>?_
 refine Tc (aH2 _ _ _ _ h1) ?_
 revert H;refine I2z (fun c1 H=>?_) fun c1 H=>?_
 revert H;refine B1z fun y2 h2 H=>?_
 refine Tc (aLi _ _ _ h2) ?_
 revert H;refine I3z (fun c2 H=>?_) fun c2 H=>?_
 revert H;refine B2z fun y3 h3 H=>?_
 refine Tc (aKr _ _ _ _ h3) ?_
 refine Z3 ?_
 exact Tm (y3) (ij H)
 refine Z6 ?_
 exact Tm (false) (ij H)
 refine Z11 ?_
 exact Tm (false) (ij H)
 rintro x1 hi;subst o1;replace H:=Hr1;clear Hr1;try dsimp only at H ⊢
 refine Z1 ?_
 cases H
 refine aF [] (by decide) ?_
 exact To
def uO (a0:AN):Option (Int):=
 (chk ((a0.AQ.length:Int)+(a0.AP.length:Int))).bind fun z1=>
 some z1
theorem aIi  (a0:AN) (r:Int) (H:uO a0=some r):FnS Tryz.prog 136 [fSt aB a0] [] (fI r) (fun _=>[]):=by
 unfold uO at H
 refine bS Tryz.func136 rfl Tryz.ntmps136 rfl (fun β=>?_)
 refine Z1 ?_
 refine Tn (cA rfl hh bT) fun b1=>?_
 refine B9 H fun z1 h1 H=>?_
 refine Z4 ?_
 cases H
 refine aF [] (by decide) ?_
 exact To
def sR (a0:AN) (a1:Al):Nat->Int->Int->Option (Int)
| 0,_,_=>none
| k+1,x4,x5=>
 if x5<(a1.AZ.length:Int)then
  (idx a1.AZ x5).bind fun y1=>
  (idx a0.AQ y1).bind fun y2=>
  (chk (x4+y2.Au)).bind fun z1=>
  (chk (x5+1)).bind fun z2=>
  sR a0 a1 k z1 z2
 else
  some x4
def wW (AA:Nat) (a0:AN) (a1:Al):Option (Int):=
 (sR a0 a1 AA 0 0).bind fun x1=>
 some x1
theorem aI8 (AA:Nat)  (a0:AN) (a1:Al) (r:Int) (H:wW AA a0 a1=some r):FnS Tryz.prog 156 [fSt aB a0,fSt bB a1] [] (fI r) (fun _=>[]):=by
 unfold wW at H
 refine bS Tryz.func156 rfl Tryz.ntmps156 rfl (fun β=>?_)
 refine Z1 ?_
 refine Tn (cA rfl hh bT) fun b1=>?_
 refine Tn (cA rfl hh bT) fun b2=>?_
 revert H;refine B5z fun o1 H Hr1=>?_
 refine aQ (fun i=>o1=i) (fun i=>[(5,fI i)]) (fun i=>[aA b2 114 [fI a1.At,fSl tI a1.AZ,fI a1.AU],aA b1 63 [fSl bC a0.AQ,fSl bD a0.AP,fSl bB a0.AO]]) ?_ ?_
 refine Z4 ?_
 refine Th (ι:=Int × Int) (fun i=>sR a0 a1 i.1 i.2.1 i.2.2=_) (fun i=>[(2,fEq (ptr b1)),(3,fEq (ptr b2)),(5,fI i.2.1),(6,fI i.2.2)]) (fun i=>[aA b2 114 [fI a1.At,fSl tI a1.AZ,fI a1.AU],aA b1 63 [fSl bC a0.AQ,fSl bD a0.AP,fSl bB a0.AO]]) (AA,0,0) H (fun _ h=>nomatch h) ?_
 clear H;rintro k1 ⟨x4,x5⟩ H;dsimp only at H ⊢;rw [sR]at H
 refine aL ?_
 revert H;refine I7z (fun c1 H=>?_) fun c1 H=>?_
 refine Z3 ?_
 refine aL ?_
 revert H;refine B1z fun y1 h1 H=>?_
 revert H;refine bs fun y2 h2 H=>?_
 revert H;refine bs fun z1 h3 H=>?_
 apply bG (ods:=[_,_,_,_,_,_,_,_,_,_,_,_,_]) 13 0 2 bF rfl rfl rfl
 refine ND ?_
 refine M8 ?_
 intros
 refine M5 ?_
 intros
 revert H;refine B6z fun z2 h4 H=>?_
 refine Z3 ?_
 exact Tm ((k1,z1,z2)) ⟨H,ls⟩
 exact fk
 kernel_rfl
 refine Z6 ?_
 exact Tm (x4) (ij H)
 rintro x1 hi;subst o1;replace H:=Hr1;clear Hr1;try dsimp only at H ⊢
 refine Z5 ?_
 cases H
 refine aF [] (by decide) ?_
 exact To
open Go.SX Go.SW Go.Dt
def lE (AA:Nat) (a2:Int) (y5:Af):Nat->Int->Bool->Option (Bool)
| 0,_,_=>none
| k+1,x4,x5=>
 if x4<(y5.Ag.length:Int)then
  (bif x5 then
   some true
  else
   (idx y5.Ag x4).bind fun y7=>
   (xF AA y7 a2).bind fun y8=>
   some (!y8)).bind fun x6=>
  (chk (x4+1)).bind fun z2=>
  lE AA a2 y5 k z2 x6
 else
  some x5
def lB (rec_r03_look_node:Aj->Int->Int->Option (Aj)) (y5:Af) (x7:Int):Nat->Int->(List ByteArray)->(List Af)->(List AN)->Int->(List Int)->(List Int)->(List Int)->Bool->Option (Aj)
| 0,_,_,_,_,_,_,_,_,_=>none
| k+1,x26,x27,x28,x29,x30,x31,x32,x33,x34=>
 if x26<(y5.AW.length:Int)then
  bif x34 then
   some (⟨(⟨x27,x28,x29,x30⟩:AL),x31,x32,x33,x34⟩:Aj)
  else
   (idx y5.AW x26).bind fun y16=>
   (rec_r03_look_node (⟨(⟨x27,x28,x29,x30⟩:AL),x31,x32,x33,x34⟩:Aj) y16 x7).bind fun y17=>
   (chk (x26+1)).bind fun z5=>
   lB rec_r03_look_node y5 x7 k z5 y17.p.AF y17.p.AH y17.p.AE y17.p.AG y17.AS y17.An y17.Am y17.bad
 else
  some (⟨(⟨x27,x28,x29,x30⟩:AL),x31,x32,x33,x34⟩:Aj)
def nD (AA:Nat) (rec_r03_look_node:Aj->Int->Int->Option (Aj)) (a1:AN) (a2:Int):Nat->Int->(List ByteArray)->(List Af)->(List AN)->Int->(List Int)->(List Int)->(List Int)->Bool->Option (List ByteArray × List Af × List AN × Int × List Int × List Int × List Int × Bool)
| 0,_,_,_,_,_,_,_,_,_=>none
| k+1,x18,x19,x20,x21,x22,x23,x24,x25,x26=>
 if x18<(a1.AO.length:Int)then
  bif x26 then
   some (x19,x20,x21,x22,x23,x24,x25,x26)
  else
   (idx a1.AO x18).bind fun y1=>
   (idx a1.AO x18).bind fun y2=>
   (wW AA (⟨a1.AQ,a1.AP,a1.AO⟩:AN) y2).bind fun y3=>
   (chk (a2+y3)).bind fun z1=>
   (rec_r03_look_node (⟨(⟨x19,x20,x21,x22⟩:AL),x23,x24,x25,x26⟩:Aj) y1.AU z1).bind fun y4=>
   (chk (x18+1)).bind fun z2=>
   nD AA rec_r03_look_node a1 a2 k z2 y4.p.AF y4.p.AH y4.p.AE y4.p.AG y4.AS y4.An y4.Am y4.bad
 else
  some (x19,x20,x21,x22,x23,x24,x25,x26)
def mY (rec_r03_look_node:Aj->Int->Int->Option (Aj)) (a1:AN) (a2:Int):Nat->Int->(List ByteArray)->(List Af)->(List AN)->Int->(List Int)->(List Int)->(List Int)->Bool->Option (Aj)
| 0,_,_,_,_,_,_,_,_,_=>none
| k+1,x36,x37,x38,x39,x40,x41,x42,x43,x44=>
 if x36<(a1.AP.length:Int)then
  bif x44 then
   some (⟨(⟨x37,x38,x39,x40⟩:AL),x41,x42,x43,x44⟩:Aj)
  else
   (idx a1.AP x36).bind fun y5=>
   (rec_r03_look_node (⟨(⟨x37,x38,x39,x40⟩:AL),x41,x42,x43,x44⟩:Aj) y5.AU a2).bind fun y6=>
   (chk (x36+1)).bind fun z3=>
   mY rec_r03_look_node a1 a2 k z3 y6.p.AF y6.p.AH y6.p.AE y6.p.AG y6.AS y6.An y6.Am y6.bad
 else
  some (⟨(⟨x37,x38,x39,x40⟩:AL),x41,x42,x43,x44⟩:Aj)
mutual
def fH:Nat->Aj->Int->Int->Option (Aj)
| 0,_,_,_=>none
| AA+1,a0,a1,a2=>
 if a1<0 then
  some (⟨(⟨a0.p.AF,a0.p.AH,a0.p.AE,a0.p.AG⟩:AL),a0.AS,a0.An,a0.Am,true⟩:Aj)
 else
  if (a0.p.AH.length:Int)<=a1 then
   some (⟨(⟨a0.p.AF,a0.p.AH,a0.p.AE,a0.p.AG⟩:AL),a0.AS,a0.An,a0.Am,true⟩:Aj)
  else
   (idx a0.An a1).bind fun y1=>
   if 0<y1 then
    some (⟨(⟨a0.p.AF,a0.p.AH,a0.p.AE,a0.p.AG⟩:AL),a0.AS,a0.An,a0.Am,true⟩:Aj)
   else
    (idx a0.An a1).bind fun y2=>
    (chk (y2+1)).bind fun z1=>
    (idx a0.An a1).bind fun y3=>
    (idx a0.AS a1).bind fun y4=>
    (idx a0.p.AH a1).bind fun y5=>
    (uH y5.Op).bind fun y6=>
    (bif !y6.2.2 then
     (some (⟨(⟨a0.p.AF,a0.p.AH,a0.p.AE,a0.p.AG⟩:AL),a0.AS.set a1.toNat a2,a0.An.set a1.toNat z1,a0.Am,true⟩:Aj)).bind fun r=>some (Sum.inr r)
    else
     if (y5.AW.length:Int)≠y6.2.1 then
      (some (⟨(⟨a0.p.AF,a0.p.AH,a0.p.AE,a0.p.AG⟩:AL),a0.AS.set a1.toNat a2,a0.An.set a1.toNat z1,a0.Am,true⟩:Aj)).bind fun r=>some (Sum.inr r)
     else
      if y6.1<0 then
       if 3<(y5.Ag.length:Int)then
        (some (⟨(⟨a0.p.AF,a0.p.AH,a0.p.AE,a0.p.AG⟩:AL),a0.AS.set a1.toNat a2,a0.An.set a1.toNat z1,a0.Am,true⟩:Aj)).bind fun r=>some (Sum.inr r)
       else
        if 0<=y6.1 then
         if (y5.Ag.length:Int)≠y6.1 then
          (some (⟨(⟨a0.p.AF,a0.p.AH,a0.p.AE,a0.p.AG⟩:AL),a0.AS.set a1.toNat a2,a0.An.set a1.toNat z1,a0.Am,true⟩:Aj)).bind fun r=>some (Sum.inr r)
         else
          some (Sum.inl ())
        else
         some (Sum.inl ())
      else
       if 0<=y6.1 then
        if (y5.Ag.length:Int)≠y6.1 then
         (some (⟨(⟨a0.p.AF,a0.p.AH,a0.p.AE,a0.p.AG⟩:AL),a0.AS.set a1.toNat a2,a0.An.set a1.toNat z1,a0.Am,true⟩:Aj)).bind fun r=>some (Sum.inr r)
        else
         some (Sum.inl ())
       else
        some (Sum.inl ())).bind fun o=>match o with
    | Sum.inr r=>some r
    | Sum.inl _=>
    (lE AA a2 y5 AA 0 a0.bad).bind fun x1=>
    ((if y5.Op=2 then
     some (decide (y5.Op=2))
    else
     if y5.Op=6 then
      some (decide (y5.Op=6))
     else
      some (decide (y5.Op=8))).bind fun x16=>
    bif x16 then
     bif x1 then
      some (Sum.inl (a2,a0.p.AF,a0.p.AH,a0.p.AE,a0.p.AG,a0.AS.set a1.toNat a2,a0.An.set a1.toNat z1,a0.Am,true))
     else
      if y5.N<0 then
       some (Sum.inl (a2,a0.p.AF,a0.p.AH,a0.p.AE,a0.p.AG,a0.AS.set a1.toNat a2,a0.An.set a1.toNat z1,a0.Am,true))
      else
       some (Sum.inl (a2,a0.p.AF,a0.p.AH,a0.p.AE,a0.p.AG,a0.AS.set a1.toNat a2,a0.An.set a1.toNat z1,a0.Am,decide (a2<=y5.N)))
    else
     if y5.Op=4 then
      if y5.N<0 then
       (some (⟨(⟨a0.p.AF,a0.p.AH,a0.p.AE,a0.p.AG⟩:AL),a0.AS.set a1.toNat a2,a0.An.set a1.toNat z1,a0.Am,true⟩:Aj)).bind fun r=>some (Sum.inr r)
      else
       if (a0.p.AE.length:Int)<=y5.N then
        (some (⟨(⟨a0.p.AF,a0.p.AH,a0.p.AE,a0.p.AG⟩:AL),a0.AS.set a1.toNat a2,a0.An.set a1.toNat z1,a0.Am,true⟩:Aj)).bind fun r=>some (Sum.inr r)
       else
        (idx a0.Am y5.N).bind fun y9=>
        if 0<y9 then
         (some (⟨(⟨a0.p.AF,a0.p.AH,a0.p.AE,a0.p.AG⟩:AL),a0.AS.set a1.toNat a2,a0.An.set a1.toNat z1,a0.Am,true⟩:Aj)).bind fun r=>some (Sum.inr r)
        else
         (idx a0.Am y5.N).bind fun y10=>
         (chk (y10+1)).bind fun z3=>
         (idx a0.Am y5.N).bind fun y11=>
         (idx a0.p.AE y5.N).bind fun y12=>
         (uO y12).bind fun y13=>
         (chk (a2+y13)).bind fun z4=>
         (idx a0.p.AE y5.N).bind fun y14=>
         ((mT AA) (⟨(⟨a0.p.AF,a0.p.AH,a0.p.AE,a0.p.AG⟩:AL),a0.AS.set a1.toNat a2,a0.An.set a1.toNat z1,a0.Am.set y5.N.toNat z3,x1⟩:Aj) y14 z4).bind fun y15=>
         some (Sum.inl (z4,y15.p.AF,y15.p.AH,y15.p.AE,y15.p.AG,y15.AS,y15.An,y15.Am,y15.bad))
     else
      bif x1 then
       some (Sum.inl (a2,a0.p.AF,a0.p.AH,a0.p.AE,a0.p.AG,a0.AS.set a1.toNat a2,a0.An.set a1.toNat z1,a0.Am,true))
      else
       some (Sum.inl (a2,a0.p.AF,a0.p.AH,a0.p.AE,a0.p.AG,a0.AS.set a1.toNat a2,a0.An.set a1.toNat z1,a0.Am,decide (y5.N≠0)))).bind fun o=>match o with
    | Sum.inr r=>some r
    | Sum.inl (x7,x8,x9,x10,x11,x12,x13,x14,x15)=>
    lB (fH AA) y5 x7 AA 0 x8 x9 x10 x11 x12 x13 x14 x15
def mT:Nat->Aj->AN->Int->Option (Aj)
| 0,_,_,_=>none
| AA+1,a0,a1,a2=>
 (nD AA (fH AA) a1 a2 AA 0 a0.p.AF a0.p.AH a0.p.AE a0.p.AG a0.AS a0.An a0.Am a0.bad).bind fun (x1,x2,x3,x4,x5,x6,x7,x8)=>
 mY (fH AA) a1 a2 AA 0 x1 x2 x3 x4 x5 x6 x7 x8
end
theorem aKZ:∀ (AA:Nat),(∀ (p0:Nat) (a0:Aj) (a1:Int) (a2:Int) (r:Aj) (H:fH AA a0 a1 a2=some r),FnS Tryz.prog 104 [fEq (.pointer (some ⟨p0,0,none⟩)),fI a1,fI a2] [nC p0 a0] (dA []) (fun _=>[nC p0 r]))/\(∀ (p0:Nat) (a0:Aj) (a1:AN) (a2:Int) (r:Aj) (H:mT AA a0 a1 a2=some r),FnS Tryz.prog 137 [fEq (.pointer (some ⟨p0,0,none⟩)),fSt aB a1,fI a2] [nC p0 a0] (dA []) (fun _=>[nC p0 r])):=by
 intro AA
 induction AA with
 | zero=>exact⟨fun p0 a0 a1 a2 r H=>(by rw [fH]at H;cases H),fun p0 a0 a1 a2 r H=>(by rw [mT]at H;cases H)⟩
 | succ AA ih=>
 obtain⟨ih_r03_look_node,ih_r03_look_def⟩:=@ih
 refine⟨?_,?_⟩
 intro p0 a0 a1 a2 r H
 rw [fH]at H
 refine bS Tryz.func104 rfl Tryz.ntmps104 rfl (fun β=>?_)
 refine tA (fun v1 v2 v3=>?_)
 refine rc 1 fun hc_v1=>?_
 refine rc 2 fun hc_v2=>?_
 refine rc 3 fun hc_v3=>?_
 refine aL ?_
 refine I4 H (fun c1 H=>?_) fun c1 H=>?_
 refine Z12 ?_
 refine Z12 ?_
 refine Z1 ?_
 refine cQ (φs':=[fSl aK a0.p.AF,fSl aN a0.p.AH,fSl aB a0.p.AE,fI a0.p.AG,fEq v1,fEq v2,fEq v3,aH true]) a1W rfl rfl (has rfl) (has rfl) (aG a1W) (sz rfl) rfl rfl ?_
 refine Z2 ?_
 refine fX ?_
 cases H
 exact cK (.inl rfl) rfl rfl
 refine I10 H (fun c2 H=>?_) fun c2 H=>?_
 refine Z12 ?_
 refine Z3 ?_
 refine cQ (φs':=[fSl aK a0.p.AF,fSl aN a0.p.AH,fSl aB a0.p.AE,fI a0.p.AG,fEq v1,fEq v2,fEq v3,aH true]) a1W rfl rfl (has rfl) (has rfl) (aG a1W) (sz rfl) rfl rfl ?_
 refine Z2 ?_
 refine fX ?_
 cases H
 exact cK (.inl rfl) rfl rfl
 refine B5 H fun y1 h1 H=>?_
 refine Yh 2 rfl c2 (lT rfl hh hh (el rfl) h1) ?_
 refine Yh 2 rfl c2 (jE rfl rfl hh (sc rfl) (idx_get h1) rfl) ?_
 refine I3 H (fun c3 H=>?_) fun c3 H=>?_
 refine Z5 ?_
 refine cQ (φs':=[fSl aK a0.p.AF,fSl aN a0.p.AH,fSl aB a0.p.AE,fI a0.p.AG,fEq v1,fEq v2,fEq v3,aH true]) a1W rfl rfl (has rfl) (has rfl) (aG a1W) (sz rfl) rfl rfl ?_
 refine Z2 ?_
 refine fX ?_
 cases H
 exact cK (.inl rfl) rfl rfl
 refine B9 H fun y2 h2 H=>?_
 refine Yo 2 rfl (lT rfl hh hh (el rfl) h2) ?_
 refine Yo 2 rfl (jE rfl rfl hh (sc rfl) (idx_get h2) rfl) ?_
 refine bz H fun z1 h3 H=>?_
 refine B1 H fun y3 h4 H=>?_
 refine Z1 ?_
 refine aM ?_
 refine aBl (z':=z1) a1W rfl rfl rfl (has rfl) (has rfl) (aG a1W) (sz rfl) (idx_get h4) rfl rfl ?_
 refine B8 H fun y4 h5 H=>?_
 refine Z1 ?_
 refine aM ?_
 refine aBl (z':=a2) a1W rfl rfl rfl (has rfl) (has rfl) (aG a1W) (sz rfl) (idx_get h5) rfl rfl ?_
 refine B8 H fun y5 h6 H=>?_
 refine Z2 ?_
 refine Tn (cF rfl xE rfl) fun b1=>?_
 refine cM (φs':=[fI y5.Op,fI y5.N,fSl cZ y5.Ag,fSl tI y5.AW]) a1W rfl rfl (has rfl) (has rfl) (aI (aG a1W) (aI (aG a1W) (aI (bR) (aI (bR) bM)))) (sz rfl) rfl rfl rfl ?_
 refine B4 H fun y6 h7 H=>?_
 refine Tc (aJX _ _ h7) ?_
 revert H;refine B8z fun o1 H Hr1=>?_
 refine aQ (ι:=Unit) (fun i=>o1=Sum.inl ()) (fun i=>[(0,fEq (ptr p0)),(2,fI a2),(6,fEq (ptr b1))]) (fun i=>[aA b1 140 [fI y5.Op,fI y5.N,fSl cZ y5.Ag,fSl tI y5.AW],aA p0 135 [fSl aK a0.p.AF,fSl aN a0.p.AH,fSl aB a0.p.AE,fI a0.p.AG,fEq v1,fEq v2,fEq v3,aH a0.bad],aD v1 3 tI (a0.AS.set a1.toNat a2),aD v2 3 tI (a0.An.set a1.toNat z1),aD v3 3 tI a0.Am]) ?_ ?_
 refine Z4 ?_
 revert H;refine cs (fun c4 H=>?_) fun c4 H=>?_
 refine Z10 ?_
 refine cT (⟨_,_,_,_,rfl,rfl,rfl,nu⟩) rfl rfl ?_
 refine cT (⟨_,_,_,_,rfl,rfl,rfl,nu⟩) rfl rfl ?_
 refine cT (⟨_,_,_,_,rfl,rfl,rfl,nu⟩) rfl rfl ?_
 refine cT (⟨_,_,_,_,rfl,rfl,rfl,nu⟩) rfl rfl ?_
 refine Z6 ?_
 refine cT (⟨_,_,_,_,rfl,rfl,rfl,nu⟩) rfl rfl ?_
 refine cT (⟨_,_,_,_,rfl,rfl,rfl,nu⟩) rfl rfl ?_
 refine cT (⟨_,_,_,_,rfl,rfl,rfl,nu⟩) rfl rfl ?_
 refine cT (⟨_,_,_,_,rfl,rfl,rfl,nu⟩) rfl rfl ?_
 refine cT (⟨_,_,_,_,rfl,rfl,rfl,nu⟩) rfl rfl ?_
 refine Z8 ?_
 refine bA ?_
 refine cQ (φs':=[fSl aK a0.p.AF,fSl aN a0.p.AH,fSl aB a0.p.AE,fI a0.p.AG,fEq v1,fEq v2,fEq v3,aH true]) a1W rfl rfl (has rfl) (has rfl) (aG a1W) (sz rfl) rfl rfl ?_
 revert H;refine B2z fun r1 H e1=>?_
 cases e1;cases Hr1
 refine aO ?_
 refine aO ?_
 refine aO ?_
 refine bA ?_
 refine fX ?_
 cases H
 refine aF [0] (by decide) ?_
 exact cK (.inl rfl) rfl rfl
 revert H;refine I7z (fun c5 H=>?_) fun c5 H=>?_
 refine Z3 ?_
 refine cT (⟨_,_,_,_,rfl,rfl,rfl,nu⟩) rfl rfl ?_
 refine cT (⟨_,_,_,_,rfl,rfl,rfl,nu⟩) rfl rfl ?_
 refine cT (⟨_,_,_,_,rfl,rfl,rfl,nu⟩) rfl rfl ?_
 refine cT (⟨_,_,_,_,rfl,rfl,rfl,nu⟩) rfl rfl ?_
 refine Z6 ?_
 refine cT (⟨_,_,_,_,rfl,rfl,rfl,nu⟩) rfl rfl ?_
 refine cT (⟨_,_,_,_,rfl,rfl,rfl,nu⟩) rfl rfl ?_
 refine cT (⟨_,_,_,_,rfl,rfl,rfl,nu⟩) rfl rfl ?_
 refine cT (⟨_,_,_,_,rfl,rfl,rfl,nu⟩) rfl rfl ?_
 refine cT (⟨_,_,_,_,rfl,rfl,rfl,nu⟩) rfl rfl ?_
 refine Z8 ?_
 refine bA ?_
 refine cQ (φs':=[fSl aK a0.p.AF,fSl aN a0.p.AH,fSl aB a0.p.AE,fI a0.p.AG,fEq v1,fEq v2,fEq v3,aH true]) a1W rfl rfl (has rfl) (has rfl) (aG a1W) (sz rfl) rfl rfl ?_
 revert H;refine B2z fun r2 H e2=>?_
 cases e2;cases Hr1
 refine aO ?_
 refine aO ?_
 refine aO ?_
 refine bA ?_
 refine fX ?_
 cases H
 refine aF [0] (by decide) ?_
 exact cK (.inl rfl) rfl rfl
 revert H;refine I3z (fun c6 H=>?_) fun c6 H=>?_
 revert H;refine I7z (fun c7 H=>?_) fun c7 H=>?_
 refine Z3 ?_
 refine cT (⟨_,_,_,_,rfl,rfl,rfl,nu⟩) rfl rfl ?_
 refine cT (⟨_,_,_,_,rfl,rfl,rfl,nu⟩) rfl rfl ?_
 refine cT (⟨_,_,_,_,rfl,rfl,rfl,nu⟩) rfl rfl ?_
 refine cT (⟨_,_,_,_,rfl,rfl,rfl,nu⟩) rfl rfl ?_
 refine cT (⟨_,_,_,_,rfl,rfl,rfl,nu⟩) rfl rfl ?_
 refine Z8 ?_
 refine bA ?_
 refine cQ (φs':=[fSl aK a0.p.AF,fSl aN a0.p.AH,fSl aB a0.p.AE,fI a0.p.AG,fEq v1,fEq v2,fEq v3,aH true]) a1W rfl rfl (has rfl) (has rfl) (aG a1W) (sz rfl) rfl rfl ?_
 revert H;refine B2z fun r3 H e3=>?_
 cases e3;cases Hr1
 refine aO ?_
 refine aO ?_
 refine aO ?_
 refine bA ?_
 refine fX ?_
 cases H
 refine aF [0] (by decide) ?_
 exact cK (.inl rfl) rfl rfl
 revert H;refine I3z (fun c8 H=>?_) fun c8 H=>?_
 revert H;refine I8z (fun c9 H=>?_) fun c9 H=>?_
 refine Z5 ?_
 refine bA ?_
 refine cQ (φs':=[fSl aK a0.p.AF,fSl aN a0.p.AH,fSl aB a0.p.AE,fI a0.p.AG,fEq v1,fEq v2,fEq v3,aH true]) a1W rfl rfl (has rfl) (has rfl) (aG a1W) (sz rfl) rfl rfl ?_
 revert H;refine B2z fun r4 H e4=>?_
 cases e4;cases Hr1
 refine aO ?_
 refine aO ?_
 refine aO ?_
 refine bA ?_
 refine fX ?_
 cases H
 refine aF [0] (by decide) ?_
 exact cK (.inl rfl) rfl rfl
 refine Z3 ?_
 refine aF [0,3,1,2,4] (by decide) ?_
 exact Tm (()) (ij H)
 refine Z11 ?_
 refine aF [0,3,1,2,4] (by decide) ?_
 exact Tm (()) (ij H)
 revert H;refine I10z (fun c10 H=>?_) fun c10 H=>?_
 revert H;refine I8z (fun c11 H=>?_) fun c11 H=>?_
 refine Z5 ?_
 refine bA ?_
 refine cQ (φs':=[fSl aK a0.p.AF,fSl aN a0.p.AH,fSl aB a0.p.AE,fI a0.p.AG,fEq v1,fEq v2,fEq v3,aH true]) a1W rfl rfl (has rfl) (has rfl) (aG a1W) (sz rfl) rfl rfl ?_
 revert H;refine B2z fun r5 H e5=>?_
 cases e5;cases Hr1
 refine aO ?_
 refine aO ?_
 refine aO ?_
 refine bA ?_
 refine fX ?_
 cases H
 refine aF [0] (by decide) ?_
 exact cK (.inl rfl) rfl rfl
 refine Z3 ?_
 refine aF [0,3,1,2,4] (by decide) ?_
 exact Tm (()) (ij H)
 refine Z11 ?_
 refine aF [0,3,1,2,4] (by decide) ?_
 exact Tm (()) (ij H)
 rintro i hi;subst o1;replace H:=Hr1;clear Hr1;try dsimp only at H ⊢
 revert H;refine bs fun o2 H Hr2=>?_
 refine aQ (fun i=>o2=i) (fun i=>[(0,fEq (ptr p0)),(2,fI a2),(6,fEq (ptr b1))]) (fun i=>[aA b1 140 [fI y5.Op,fI y5.N,fSl cZ y5.Ag,fSl tI y5.AW],aA p0 135 [fSl aK a0.p.AF,fSl aN a0.p.AH,fSl aB a0.p.AE,fI a0.p.AG,fEq v1,fEq v2,fEq v3,aH i],aD v1 3 tI (a0.AS.set a1.toNat a2),aD v2 3 tI (a0.An.set a1.toNat z1),aD v3 3 tI a0.Am]) ?_ ?_
 refine Z4 ?_
 refine Th (ι:=Int × Bool) (fun i=>lE AA a2 y5 i.1 i.2.1 i.2.2=_) (fun i=>[(0,fEq (ptr p0)),(2,fI a2),(6,fEq (ptr b1)),(10,fI i.2.1)]) (fun i=>[aA b1 140 [fI y5.Op,fI y5.N,fSl cZ y5.Ag,fSl tI y5.AW],aA p0 135 [fSl aK a0.p.AF,fSl aN a0.p.AH,fSl aB a0.p.AE,fI a0.p.AG,fEq v1,fEq v2,fEq v3,aH i.2.2],aD v1 3 tI (a0.AS.set a1.toNat a2),aD v2 3 tI (a0.An.set a1.toNat z1),aD v3 3 tI a0.Am]) (AA,0,a0.bad) H (fun _ h=>nomatch h) ?_
 clear H;rintro k1 ⟨x4,x5⟩ H;dsimp only at H ⊢;rw [lE]at H
 refine aL ?_
 revert H;refine I7z (fun c12 H=>?_) fun c12 H=>?_
 revert H;refine B3z fun o3 H Hr3=>?_
 refine aQ (fun i=>o3=i) (fun i=>[(0,fEq (ptr p0)),(2,fI a2),(6,fEq (ptr b1)),(10,fI x4)]) (fun i=>[aA p0 135 [fSl aK a0.p.AF,fSl aN a0.p.AH,fSl aB a0.p.AE,fI a0.p.AG,fEq v1,fEq v2,fEq v3,aH i],aA b1 140 [fI y5.Op,fI y5.N,fSl cZ y5.Ag,fSl tI y5.AW],aD v1 3 tI (a0.AS.set a1.toNat a2),aD v2 3 tI (a0.An.set a1.toNat z1),aD v3 3 tI a0.Am]) ?_ ?_
 refine Z8 ?_
 revert H;refine cs (fun c13 H=>?_) fun c13 H=>?_
 refine Z11 ?_
 refine aW ?_
 refine cQ (φs':=[fSl aK a0.p.AF,fSl aN a0.p.AH,fSl aB a0.p.AE,fI a0.p.AG,fEq v1,fEq v2,fEq v3,aH true]) a1W rfl rfl (has rfl) (has rfl) (aG a1W) (sz rfl) rfl rfl ?_
 refine Z3 ?_
 exact Tm (true) (ij H)
 revert H;refine B3z fun y7 h8 H=>?_
 revert H;refine B3z fun y8 h9 H=>?_
 refine Tc (aIO _ _ _ _ h9) ?_
 refine Z4 ?_
 refine aW ?_
 refine cQ (φs':=[fSl aK a0.p.AF,fSl aN a0.p.AH,fSl aB a0.p.AE,fI a0.p.AG,fEq v1,fEq v2,fEq v3,aH (!y8)]) a1W rfl rfl (has rfl) (has rfl) (aG a1W) (sz rfl) rfl rfl ?_
 refine Z3 ?_
 exact Tm (!y8) (ij H)
 rintro x6 hi;subst o3;replace H:=Hr3;clear Hr3;try dsimp only at H ⊢
 revert H;refine B2z fun z2 h10 H=>?_
 refine Z3 ?_
 refine aF [1,0,2,3,4] (by decide) ?_
 exact Tm ((k1,z2,x6)) ⟨H,ls⟩
 refine Z6 ?_
 exact Tm (x5) (ij H)
 rintro x1 hi;subst o2;replace H:=Hr2;clear Hr2;try dsimp only at H ⊢
 revert H;refine B4z fun o4 H Hr4=>?_
 refine aQ (ι:=Int × List ByteArray × List Af × List AN × Int × List Int × List Int × List Int × Bool × Value × Value × Value) (fun i=>o4=Sum.inl (i.1,i.2.1,i.2.2.1,i.2.2.2.1,i.2.2.2.2.1,i.2.2.2.2.2.1,i.2.2.2.2.2.2.1,i.2.2.2.2.2.2.2.1,i.2.2.2.2.2.2.2.2.1)) (fun i=>[(0,fEq (ptr p0)),(6,fEq (ptr b1)),(11,fI i.1)]) (fun i=>[aA p0 135 [fSl aK i.2.1,fSl aN i.2.2.1,fSl aB i.2.2.2.1,fI i.2.2.2.2.1,fEq i.2.2.2.2.2.2.2.2.2.1,fEq i.2.2.2.2.2.2.2.2.2.2.1,fEq i.2.2.2.2.2.2.2.2.2.2.2,aH i.2.2.2.2.2.2.2.2.1],aA b1 140 [fI y5.Op,fI y5.N,fSl cZ y5.Ag,fSl tI y5.AW],aD i.2.2.2.2.2.2.2.2.2.1 3 tI i.2.2.2.2.2.1,aD i.2.2.2.2.2.2.2.2.2.2.1 3 tI i.2.2.2.2.2.2.1,aD i.2.2.2.2.2.2.2.2.2.2.2 3 tI i.2.2.2.2.2.2.2.1]) ?_ ?_
 revert H;refine B5z fun o5 H Hr5=>?_
 refine aQ (fun i=>o5=i) (fun i=>[(0,fEq (ptr p0)),(2,fI a2),(6,fEq (ptr b1)),(11,fI a2),(128,fI y5.Op),(141,aH i)]) (fun i=>[aA b1 140 [fI y5.Op,fI y5.N,fSl cZ y5.Ag,fSl tI y5.AW],aA p0 135 [fSl aK a0.p.AF,fSl aN a0.p.AH,fSl aB a0.p.AE,fI a0.p.AG,fEq v1,fEq v2,fEq v3,aH x1],aD v1 3 tI (a0.AS.set a1.toNat a2),aD v2 3 tI (a0.An.set a1.toNat z1),aD v3 3 tI a0.Am]) ?_ ?_
 revert H;refine I4z (fun c14 H=>?_) fun c14 H=>?_
 refine Z3 ?_
 exact Tm (decide (y5.Op=2)) (ij H)
 revert H;refine I5z (fun c15 H=>?_) fun c15 H=>?_
 refine Z3 ?_
 exact Tm (decide (y5.Op=6)) (ij H)
 refine Z5 ?_
 exact Tm (decide (y5.Op=8)) (ij H)
 rintro x16 hi;subst o5;replace H:=Hr5;clear Hr5;try dsimp only at H ⊢
 revert H;refine cs (fun c16 H=>?_) fun c16 H=>?_
 refine Z8 ?_
 revert H;refine cs (fun c17 H=>?_) fun c17 H=>?_
 refine Z12 ?_
 refine aW ?_
 refine cQ (φs':=[fSl aK a0.p.AF,fSl aN a0.p.AH,fSl aB a0.p.AE,fI a0.p.AG,fEq v1,fEq v2,fEq v3,aH true]) a1W rfl rfl (has rfl) (has rfl) (aG a1W) (sz rfl) rfl rfl ?_
 refine Z3 ?_
 exact Tm ((a2,a0.p.AF,a0.p.AH,a0.p.AE,a0.p.AG,a0.AS.set a1.toNat a2,a0.An.set a1.toNat z1,a0.Am,true,v1,v2,v3)) (ij H)
 revert H;refine I5z (fun c18 H=>?_) fun c18 H=>?_
 refine Z7 ?_
 refine aW ?_
 refine cQ (φs':=[fSl aK a0.p.AF,fSl aN a0.p.AH,fSl aB a0.p.AE,fI a0.p.AG,fEq v1,fEq v2,fEq v3,aH true]) a1W rfl rfl (has rfl) (has rfl) (aG a1W) (sz rfl) rfl rfl ?_
 refine Z3 ?_
 exact Tm ((a2,a0.p.AF,a0.p.AH,a0.p.AE,a0.p.AG,a0.AS.set a1.toNat a2,a0.An.set a1.toNat z1,a0.Am,true,v1,v2,v3)) (ij H)
 refine Z7 ?_
 refine aW ?_
 refine cQ (φs':=[fSl aK a0.p.AF,fSl aN a0.p.AH,fSl aB a0.p.AE,fI a0.p.AG,fEq v1,fEq v2,fEq v3,aH (decide (a2<=y5.N))]) a1W rfl rfl (has rfl) (has rfl) (aG a1W) (sz rfl) rfl rfl ?_
 refine Z3 ?_
 exact Tm ((a2,a0.p.AF,a0.p.AH,a0.p.AE,a0.p.AG,a0.AS.set a1.toNat a2,a0.An.set a1.toNat z1,a0.Am,decide (a2<=y5.N),v1,v2,v3)) (ij H)
 revert H;refine I5z (fun c19 H=>?_) fun c19 H=>?_
 refine Z1 ?_
 refine aL ?_
 refine aL ?_
 revert H;refine is (fun c20 H=>?_) fun c20 H=>?_
 apply bG (ods:=[_,_,_,_,_,_,_,_,_,_,_,_,_,_,_,_,_,_,_,_,_,_,_,_,_]) 25 0 5 bF rfl rfl rfl
 refine ND ?_
 refine M8 ?_
 intros
 refine M8 ?_
 intros
 refine M8 ?_
 intros
 refine M1 ?_
 intros
 refine Z7 ?_
 refine aW ?_
 refine cQ (φs':=[fSl aK a0.p.AF,fSl aN a0.p.AH,fSl aB a0.p.AE,fI a0.p.AG,fEq v1,fEq v2,fEq v3,aH true]) a1W rfl rfl (has rfl) (has rfl) (aG a1W) (sz rfl) rfl rfl ?_
 revert H;refine B4z fun r6 H e6=>?_
 cases e6;cases Hr4
 refine aO ?_
 refine aO ?_
 refine aO ?_
 refine bA ?_
 refine fX ?_
 cases H
 refine aF [0] (by decide) ?_
 exact cK (.inl rfl) rfl rfl
 exact fk
 kernel_rfl
 revert H;refine is (fun c21 H=>?_) fun c21 H=>?_
 apply bG (ods:=[_,_,_,_,_,_,_,_,_,_,_,_,_,_,_,_,_,_,_,_,_,_,_,_,_]) 25 0 5 bF rfl rfl rfl
 refine ND ?_
 refine M8 ?_
 intros
 refine M8 ?_
 intros
 refine M8 ?_
 intros
 refine M1 ?_
 intros
 refine Z7 ?_
 refine aW ?_
 refine cQ (φs':=[fSl aK a0.p.AF,fSl aN a0.p.AH,fSl aB a0.p.AE,fI a0.p.AG,fEq v1,fEq v2,fEq v3,aH true]) a1W rfl rfl (has rfl) (has rfl) (aG a1W) (sz rfl) rfl rfl ?_
 revert H;refine B4z fun r7 H e7=>?_
 cases e7;cases Hr4
 refine aO ?_
 refine aO ?_
 refine aO ?_
 refine bA ?_
 refine fX ?_
 cases H
 refine aF [0] (by decide) ?_
 exact cK (.inl rfl) rfl rfl
 exact fk
 kernel_rfl
 revert H;refine bs fun y9 h11 H=>?_
 apply bG (ods:=[_,_,_,_,_,_,_,_,_,_,_,_,_,_,_,_,_,_,_,_,_,_,_,_,_]) 25 0 5 bF rfl rfl rfl
 refine ND ?_
 refine M8 ?_
 intros
 refine M8 ?_
 intros
 refine M5 ?_
 intros
 refine N_op (od:=odC [4] false (lZ v3 1 y5.N.toNat 0) [iE]) (ps:=[4]) (φ:=lZ v3 1 y5.N.toNat 0) rfl (fun _=>rfl) ⟨_,_,rfl,rfl,c21⟩ rfl rfl (lT rfl hh hh (el rfl) h11) (fun _=>?_)
 refine N_op (od:=odC [4] false (fI y9) [iE]) (ps:=[4]) (φ:=fI y9) rfl (fun _=>rfl) ⟨_,_,rfl,rfl,c21⟩ rfl rfl (jE rfl rfl hh (sc rfl) (idx_get h11) rfl) (fun _=>?_)
 refine M2 ?_
 intros
 revert H;refine I2z (fun c22 H=>?_) fun c22 H=>?_
 refine Z5 ?_
 refine aW ?_
 refine cQ (φs':=[fSl aK a0.p.AF,fSl aN a0.p.AH,fSl aB a0.p.AE,fI a0.p.AG,fEq v1,fEq v2,fEq v3,aH true]) a1W rfl rfl (has rfl) (has rfl) (aG a1W) (sz rfl) rfl rfl ?_
 revert H;refine B4z fun r8 H e8=>?_
 cases e8;cases Hr4
 refine aO ?_
 refine aO ?_
 refine aO ?_
 refine bA ?_
 refine fX ?_
 cases H
 refine aF [0] (by decide) ?_
 exact cK (.inl rfl) rfl rfl
 refine Z3 ?_
 refine aL ?_
 revert H;refine bs fun y10 h12 H=>?_
 revert H;refine bs fun z3 h13 H=>?_
 revert H;refine bs fun y11 h14 H=>?_
 apply bG (ods:=[_,_,_,_,_,_,_,_,_,_,_]) 11 0 5 bF rfl rfl rfl
 refine ND ?_
 refine M6 ?_
 intros
 refine Mo 4 rfl (lT rfl hh hh (el rfl) h12) fun _=>?_
 refine Mo 4 rfl (jE rfl rfl hh (sc rfl) (idx_get h12) rfl) fun _=>?_
 refine M2 ?_
 intros
 refine tQ (od:=odC [4] true (eG) [aD v3 3 tI (a0.Am.set y5.N.toNat z3)]) (p:=4) (z':=z3) rfl (fun _=>rfl) (fun _=>rfl) a1W rfl rfl rfl rfl (has rfl) (has rfl) (aG a1W) (sz rfl) (idx_get h14) rfl rfl (fun _=>?_)
 refine Z2 ?_
 refine aL ?_
 revert H;refine bs fun y12 h15 H=>?_
 revert H;refine bs fun y13 h16 H=>?_
 revert H;refine bs fun z4 h17 H=>?_
 apply bG (ods:=[_,_,_,_,_,_,_,_,_,_,_,_,_]) 13 0 5 bF rfl rfl rfl
 refine ND ?_
 refine M8 ?_
 intros
 refine My (eH rfl hh hh (el rfl) h15) fun _=>?_
 refine M1 ?_
 intros
 refine Nc (aIi _ _ h16) fun _=>?_
 refine M2 ?_
 intros
 revert H;refine B2z fun y14 h18 H=>?_
 apply bG (ods:=[_,_,_,_,_,_,_,_,_,_,_]) 11 0 5 bF rfl rfl rfl
 refine ND ?_
 refine M8 ?_
 intros
 refine M3 ?_
 intros
 refine Z1 ?_
 refine aO ?_
 refine aO ?_
 refine aO ?_
 refine aO ?_
 refine fX ?_
 revert H;refine bs fun y15 h19 H=>?_
 refine Tc (ih_r03_look_def _ _ _ _ _ h19) ?_
 refine tA (fun v7 v8 v9=>?_)
 refine rc 1 fun _=>?_
 refine rc 2 fun _=>?_
 refine rc 3 fun _=>?_
 refine Z3 ?_
 refine aF [0,4,1,2,3] (by decide) ?_
 exact Tm ((z4,y15.p.AF,y15.p.AH,y15.p.AE,y15.p.AG,y15.AS,y15.An,y15.Am,y15.bad,v7,v8,v9)) (ij H)
 exact fk
 kernel_rfl
 exact fk
 kernel_rfl
 exact fk
 kernel_rfl
 exact fk
 kernel_rfl
 refine Z8 ?_
 revert H;refine cs (fun c23 H=>?_) fun c23 H=>?_
 refine Z6 ?_
 refine aW ?_
 refine cQ (φs':=[fSl aK a0.p.AF,fSl aN a0.p.AH,fSl aB a0.p.AE,fI a0.p.AG,fEq v1,fEq v2,fEq v3,aH true]) a1W rfl rfl (has rfl) (has rfl) (aG a1W) (sz rfl) rfl rfl ?_
 refine Z3 ?_
 exact Tm ((a2,a0.p.AF,a0.p.AH,a0.p.AE,a0.p.AG,a0.AS.set a1.toNat a2,a0.An.set a1.toNat z1,a0.Am,true,v1,v2,v3)) (ij H)
 refine Z6 ?_
 refine aW ?_
 refine cQ (φs':=[fSl aK a0.p.AF,fSl aN a0.p.AH,fSl aB a0.p.AE,fI a0.p.AG,fEq v1,fEq v2,fEq v3,aH (decide (y5.N≠0))]) a1W rfl rfl (has rfl) (has rfl) (aG a1W) (sz rfl) rfl rfl ?_
 refine Z3 ?_
 exact Tm ((a2,a0.p.AF,a0.p.AH,a0.p.AE,a0.p.AG,a0.AS.set a1.toNat a2,a0.An.set a1.toNat z1,a0.Am,decide (y5.N≠0),v1,v2,v3)) (ij H)
 rintro⟨x7,x8,x9,x10,x11,x12,x13,x14,x15,v4,v5,v6⟩ hi;subst o4;replace H:=Hr4;clear Hr4;try dsimp only at H ⊢
 refine rc 2 fun hc_v4=>?_
 refine rc 3 fun hc_v5=>?_
 refine rc 4 fun hc_v6=>?_
 refine Z4 ?_
 refine Th (ι:=Int × List ByteArray × List Af × List AN × Int × List Int × List Int × List Int × Bool × Value × Value × Value) (fun i=>lB (fH AA) y5 x7 i.1 i.2.1 i.2.2.1 i.2.2.2.1 i.2.2.2.2.1 i.2.2.2.2.2.1 i.2.2.2.2.2.2.1 i.2.2.2.2.2.2.2.1 i.2.2.2.2.2.2.2.2.1 i.2.2.2.2.2.2.2.2.2.1=_) (fun i=>[(0,fEq (ptr p0)),(6,fEq (ptr b1)),(11,fI x7),(12,fI i.2.1)]) (fun i=>[aA p0 135 [fSl aK i.2.2.1,fSl aN i.2.2.2.1,fSl aB i.2.2.2.2.1,fI i.2.2.2.2.2.1,fEq i.2.2.2.2.2.2.2.2.2.2.1,fEq i.2.2.2.2.2.2.2.2.2.2.2.1,fEq i.2.2.2.2.2.2.2.2.2.2.2.2,aH i.2.2.2.2.2.2.2.2.2.1],aA b1 140 [fI y5.Op,fI y5.N,fSl cZ y5.Ag,fSl tI y5.AW],aD i.2.2.2.2.2.2.2.2.2.2.1 3 tI i.2.2.2.2.2.2.1,aD i.2.2.2.2.2.2.2.2.2.2.2.1 3 tI i.2.2.2.2.2.2.2.1,aD i.2.2.2.2.2.2.2.2.2.2.2.2 3 tI i.2.2.2.2.2.2.2.2.1]) (AA,0,x8,x9,x10,x11,x12,x13,x14,x15,v4,v5,v6) H (fun _ h=>nomatch h) ?_
 clear H;rintro k2 ⟨x26,x27,x28,x29,x30,x31,x32,x33,x34,v13,v14,v15⟩ H;dsimp only at H ⊢;rw [lB]at H
 refine rc 2 fun hc_v13=>?_
 refine rc 3 fun hc_v14=>?_
 refine rc 4 fun hc_v15=>?_
 refine aL ?_
 refine I7 H (fun c24 H=>?_) fun c24 H=>?_
 refine Z7 ?_
 refine cz H (fun c25 H=>?_) fun c25 H=>?_
 refine Z5 ?_
 refine aO ?_
 refine aO ?_
 refine aO ?_
 refine bA ?_
 refine fX ?_
 cases H
 refine aF [0] (by decide) ?_
 exact cK (.inr rfl) rfl rfl
 refine Z3 ?_
 refine aL ?_
 refine B6 H fun y16 h20 H=>?_
 refine Z3 ?_
 refine aO ?_
 refine aO ?_
 refine aO ?_
 refine bA ?_
 refine fX ?_
 refine bz H fun y17 h21 H=>?_
 refine Tc (ih_r03_look_node _ _ _ _ _ h21) ?_
 refine tA (fun v16 v17 v18=>?_)
 refine rc 1 fun _=>?_
 refine rc 2 fun _=>?_
 refine rc 3 fun _=>?_
 refine B5 H fun z5 h22 H=>?_
 refine Z3 ?_
 refine aF [0,4,1,2,3] (by decide) ?_
 exact Tm ((k2,z5,y17.p.AF,y17.p.AH,y17.p.AE,y17.p.AG,y17.AS,y17.An,y17.Am,y17.bad,v16,v17,v18)) ⟨H,ls⟩
 refine Z12 ?_
 refine aO ?_
 refine aO ?_
 refine aO ?_
 refine bA ?_
 refine fX ?_
 cases H
 refine aF [0] (by decide) ?_
 exact cK (.inr rfl) rfl rfl
 intro p0 a0 a1 a2 r H
 rw [mT]at H
 refine bS Tryz.func137 rfl Tryz.ntmps137 rfl (fun β=>?_)
 refine tA (fun v1 v2 v3=>?_)
 refine rc 1 fun hc_v1=>?_
 refine rc 2 fun hc_v2=>?_
 refine rc 3 fun hc_v3=>?_
 refine Z1 ?_
 refine Tn (cA rfl hh bT) fun b1=>?_
 revert H;refine B1z fun o1 H Hr1=>?_
 refine aQ (ι:=List ByteArray × List Af × List AN × Int × List Int × List Int × List Int × Bool × Value × Value × Value) (fun i=>o1=(i.1,i.2.1,i.2.2.1,i.2.2.2.1,i.2.2.2.2.1,i.2.2.2.2.2.1,i.2.2.2.2.2.2.1,i.2.2.2.2.2.2.2.1)) (fun i=>[(0,fEq (ptr p0)),(2,fI a2),(4,fEq (ptr b1))]) (fun i=>[aA b1 63 [fSl bC a1.AQ,fSl bD a1.AP,fSl bB a1.AO],aA p0 135 [fSl aK i.1,fSl aN i.2.1,fSl aB i.2.2.1,fI i.2.2.2.1,fEq i.2.2.2.2.2.2.2.2.1,fEq i.2.2.2.2.2.2.2.2.2.1,fEq i.2.2.2.2.2.2.2.2.2.2,aH i.2.2.2.2.2.2.2.1],aD i.2.2.2.2.2.2.2.2.1 3 tI i.2.2.2.2.1,aD i.2.2.2.2.2.2.2.2.2.1 3 tI i.2.2.2.2.2.1,aD i.2.2.2.2.2.2.2.2.2.2 3 tI i.2.2.2.2.2.2.1]) ?_ ?_
 refine Z4 ?_
 refine Th (ι:=Int × List ByteArray × List Af × List AN × Int × List Int × List Int × List Int × Bool × Value × Value × Value) (fun i=>nD AA (fH AA) a1 a2 i.1 i.2.1 i.2.2.1 i.2.2.2.1 i.2.2.2.2.1 i.2.2.2.2.2.1 i.2.2.2.2.2.2.1 i.2.2.2.2.2.2.2.1 i.2.2.2.2.2.2.2.2.1 i.2.2.2.2.2.2.2.2.2.1=_) (fun i=>[(0,fEq (ptr p0)),(2,fI a2),(4,fEq (ptr b1)),(6,fI i.2.1)]) (fun i=>[aA b1 63 [fSl bC a1.AQ,fSl bD a1.AP,fSl bB a1.AO],aA p0 135 [fSl aK i.2.2.1,fSl aN i.2.2.2.1,fSl aB i.2.2.2.2.1,fI i.2.2.2.2.2.1,fEq i.2.2.2.2.2.2.2.2.2.2.1,fEq i.2.2.2.2.2.2.2.2.2.2.2.1,fEq i.2.2.2.2.2.2.2.2.2.2.2.2,aH i.2.2.2.2.2.2.2.2.2.1],aD i.2.2.2.2.2.2.2.2.2.2.1 3 tI i.2.2.2.2.2.2.1,aD i.2.2.2.2.2.2.2.2.2.2.2.1 3 tI i.2.2.2.2.2.2.2.1,aD i.2.2.2.2.2.2.2.2.2.2.2.2 3 tI i.2.2.2.2.2.2.2.2.1]) (AA,0,a0.p.AF,a0.p.AH,a0.p.AE,a0.p.AG,a0.AS,a0.An,a0.Am,a0.bad,v1,v2,v3) H (fun _ h=>nomatch h) ?_
 clear H;rintro k1 ⟨x18,x19,x20,x21,x22,x23,x24,x25,x26,v10,v11,v12⟩ H;dsimp only at H ⊢;rw [nD]at H
 refine rc 2 fun _=>?_
 refine rc 3 fun _=>?_
 refine rc 4 fun _=>?_
 refine aL ?_
 revert H;refine I7z (fun c1 H=>?_) fun c1 H=>?_
 refine Z7 ?_
 revert H;refine cs (fun c2 H=>?_) fun c2 H=>?_
 refine Z6 ?_
 exact Tm ((x19,x20,x21,x22,x23,x24,x25,x26,v10,v11,v12)) (ij H)
 refine Z3 ?_
 refine aL ?_
 revert H;refine B1z fun y1 h1 H=>?_
 revert H;refine bs fun y2 h2 H=>?_
 revert H;refine bs fun y3 h3 H=>?_
 revert H;refine bs fun z1 h4 H=>?_
 apply bG (ods:=[_,_,_,_,_,_,_,_,_,_,_,_,_,_,_,_]) 16 0 5 bF rfl rfl rfl
 refine ND ?_
 refine M4 ?_
 intros
 refine My (eH rfl hh hh (el rfl) h1) fun _=>?_
 refine M7 ?_
 intros
 refine My (eH rfl hh hh (el rfl) h2) fun _=>?_
 refine M1 ?_
 intros
 refine Nc (aI8 _ _ _ _ h3) fun _=>?_
 refine M1 ?_
 intros
 refine Z1 ?_
 refine aO ?_
 refine aO ?_
 refine aO ?_
 refine aO ?_
 refine fX ?_
 revert H;refine bs fun y4 h5 H=>?_
 refine Tc (ih_r03_look_node _ _ _ _ _ h5) ?_
 refine tA (fun v13 v14 v15=>?_)
 refine rc 1 fun hc_v13=>?_
 refine rc 2 fun hc_v14=>?_
 refine rc 3 fun hc_v15=>?_
 revert H;refine B5z fun z2 h6 H=>?_
 refine Z3 ?_
 refine aF [4,0,1,2,3] (by decide) ?_
 exact Tm ((k1,z2,y4.p.AF,y4.p.AH,y4.p.AE,y4.p.AG,y4.AS,y4.An,y4.Am,y4.bad,v13,v14,v15)) ⟨H,ls⟩
 exact fk
 kernel_rfl
 refine Z12 ?_
 refine Z1 ?_
 exact Tm ((x19,x20,x21,x22,x23,x24,x25,x26,v10,v11,v12)) (ij H)
 rintro⟨x1,x2,x3,x4,x5,x6,x7,x8,v4,v5,v6⟩ hi;subst o1;replace H:=Hr1;clear Hr1;try dsimp only at H ⊢
 refine rc 2 fun hc_v4=>?_
 refine rc 3 fun hc_v5=>?_
 refine rc 4 fun hc_v6=>?_
 refine Z4 ?_
 refine Th (ι:=Int × List ByteArray × List Af × List AN × Int × List Int × List Int × List Int × Bool × Value × Value × Value) (fun i=>mY (fH AA) a1 a2 i.1 i.2.1 i.2.2.1 i.2.2.2.1 i.2.2.2.2.1 i.2.2.2.2.2.1 i.2.2.2.2.2.2.1 i.2.2.2.2.2.2.2.1 i.2.2.2.2.2.2.2.2.1 i.2.2.2.2.2.2.2.2.2.1=_) (fun i=>[(0,fEq (ptr p0)),(2,fI a2),(4,fEq (ptr b1)),(7,fI i.2.1)]) (fun i=>[aA b1 63 [fSl bC a1.AQ,fSl bD a1.AP,fSl bB a1.AO],aA p0 135 [fSl aK i.2.2.1,fSl aN i.2.2.2.1,fSl aB i.2.2.2.2.1,fI i.2.2.2.2.2.1,fEq i.2.2.2.2.2.2.2.2.2.2.1,fEq i.2.2.2.2.2.2.2.2.2.2.2.1,fEq i.2.2.2.2.2.2.2.2.2.2.2.2,aH i.2.2.2.2.2.2.2.2.2.1],aD i.2.2.2.2.2.2.2.2.2.2.1 3 tI i.2.2.2.2.2.2.1,aD i.2.2.2.2.2.2.2.2.2.2.2.1 3 tI i.2.2.2.2.2.2.2.1,aD i.2.2.2.2.2.2.2.2.2.2.2.2 3 tI i.2.2.2.2.2.2.2.2.1]) (AA,0,x1,x2,x3,x4,x5,x6,x7,x8,v4,v5,v6) H (fun _ h=>nomatch h) ?_
 clear H;rintro k2 ⟨x36,x37,x38,x39,x40,x41,x42,x43,x44,v19,v20,v21⟩ H;dsimp only at H ⊢;rw [mY]at H
 refine rc 2 fun _=>?_
 refine rc 3 fun _=>?_
 refine rc 4 fun _=>?_
 refine aL ?_
 refine I7 H (fun c3 H=>?_) fun c3 H=>?_
 refine Z7 ?_
 refine cz H (fun c4 H=>?_) fun c4 H=>?_
 refine Z5 ?_
 refine aO ?_
 refine aO ?_
 refine aO ?_
 refine aO ?_
 refine fX ?_
 cases H
 refine aF [0] (by decide) ?_
 exact cK (.inr rfl) rfl rfl
 refine Z3 ?_
 refine aL ?_
 refine B6 H fun y5 h7 H=>?_
 refine Z4 ?_
 refine aO ?_
 refine aO ?_
 refine aO ?_
 refine aO ?_
 refine fX ?_
 refine bz H fun y6 h8 H=>?_
 refine Tc (ih_r03_look_node _ _ _ _ _ h8) ?_
 refine tA (fun v22 v23 v24=>?_)
 refine rc 1 fun _=>?_
 refine rc 2 fun _=>?_
 refine rc 3 fun _=>?_
 refine B5 H fun z3 h9 H=>?_
 refine Z3 ?_
 refine aF [4,0,1,2,3] (by decide) ?_
 exact Tm ((k2,z3,y6.p.AF,y6.p.AH,y6.p.AE,y6.p.AG,y6.AS,y6.An,y6.Am,y6.bad,v22,v23,v24)) ⟨H,ls⟩
 refine Z12 ?_
 refine aO ?_
 refine aO ?_
 refine aO ?_
 refine aO ?_
 refine fX ?_
 cases H
 refine aF [0] (by decide) ?_
 exact cK (.inr rfl) rfl rfl
theorem aKq (AA:Nat) (p0:Nat) (a0:Aj) (a1:Int) (a2:Int) (r:Aj) (H:fH AA a0 a1 a2=some r):FnS Tryz.prog 104 [fEq (.pointer (some ⟨p0,0,none⟩)),fI a1,fI a2] [nC p0 a0] (dA []) (fun _=>[nC p0 r]):=(aKZ AA).1 p0 a0 a1 a2 r H
end Go.Proofs.YtjahnkcjbglnoaaGreatDoor

/- Parts of the proof: lemmas, and the steps through the program. -/
import Derived.Test.YtjahnkcjbglnoaaGreatDoorCo2
import Derived.Test.YtjahnkcjbglnoaaGreatDoorProg
import Derived.KernelRfl
set_option linter.unusedVariables false
set_option linter.unusedSimpArgs false
set_option maxRecDepth 100000
set_option maxHeartbeats 2000000
namespace Go.Proofs.YtjahnkcjbglnoaaGreatDoor
open Go.SX Go.SW Go.BX
theorem aG0:okB (run0 Tryz.prog 1000000 9) true=true:=by kernel_rfl
def aBO:Option Bool:=some true
theorem aGP (r:Bool) (H:aBO=some r):FnS Tryz.prog 9 [] [] (aJ r) (fun _=>[]):=by
 cases H
 obtain⟨s,h⟩:=run_true aG0
 exact aF1 (by kernel_rfl) rfl h
open Go.SX Go.SW Go.Dt
attribute [local irreducible] Code.wpIn wpListIn Exit.then Exit.inBlock
theorem aF9 (p0:Nat) (e0:Int):FnD Tryz.prog 140 [fEq (ptr p0)] [aA p0 29 [fI e0]] (.returning) [aA p0 29 [fI e0]]:=by
 refine FnD_of Tryz.func140 rfl Tryz.ntmps140 rfl (fun β c₀ cs hc=>?_)
 refine aEU (v:= .nilIface) (cs':=c₀ :: cs) (by simp [recoverD,hc]) rfl rfl rfl rfl rfl rfl ⟨rfl,rfl⟩ ?_
 refine T_inS ?_
 refine Z2 ?_
 refine Yy (aAg rfl hh aD7 (rfl:iN _=some true)) ?_
 refine Z3 ?_
 exact T_endD (u':= .returning) (.inr rfl) rfl (by cases c₀;cases hc;rfl) rfl rfl
theorem aIB (p0:Nat) (e0 e1:Int):FnD Tryz.prog 140 [fEq (ptr p0)] [aA p0 29 [fI e0]] (.panicking [{ v:=(.iface 240 (.agg #[.int .i64 e1])),recovered:=false }]) [aA p0 29 [fI e1]]:=by
 refine FnD_of Tryz.func140 rfl Tryz.ntmps140 rfl (fun β c₀ cs hc=>?_)
 refine aEU (v:=(.iface 240 (.agg #[.int .i64 e1]))) (cs':={ c₀ with mode:= .panicking [{ v:=(.iface 240 (.agg #[.int .i64 e1])),recovered:=true }] } :: cs) (by simp [recoverD,hc]) rfl rfl rfl rfl rfl rfl ⟨rfl,rfl⟩ ?_
 refine T_inS ?_
 refine Z2 ?_
 refine Yy (aAg rfl hh aD7 (rfl:iN _=some false)) ?_
 refine Z4 ?_
 refine Yy (aIq rfl hh aDC aHf) ?_
 refine Z2 ?_
 refine mW 11 rfl (vC [(.int .i64 e1)]) ?_
 refine Z1 ?_
 refine Tn (cV rfl aGI rfl) fun b1=>?_
 refine dR (φs':=[fI e1]) trivial rfl rfl (has rfl) (has rfl) (aK (aD trivial) bY) (sz rfl) rfl rfl rfl ?_
 refine Z2 ?_
 refine aI ?_
 refine Z12 ?_
 refine bZ ?_
 refine cR (φs':=[fI e1]) trivial rfl rfl (has rfl) (has rfl) (aD trivial) (sz rfl) rfl rfl ?_
 refine Z1 ?_
 refine aH [0] (by decide) ?_
 exact T_endD (u':= .panicking [{ v:=(.iface 240 (.agg #[.int .i64 e1])),recovered:=true }]) (.inr rfl) rfl rfl rfl rfl
def bM (a0:Bool):Option (Unit ⊕ Value):=
 bif a0 then
  some (Sum.inl ())
 else
  some (Sum.inr (.iface 240 (.agg ([(.int .i64 2)]:List Value).toArray)))
theorem aT  (a0:Bool) (r:Unit ⊕ Value) (H:bM a0=some r):FnE Tryz.prog 159 [aJ a0] [] r (fun r=>dG []) (fun r=>[]):=by
 unfold bM at H
 refine rK Tryz.func159 rfl Tryz.ntmps159 rfl (fun β=>?_)
 refine Z4 ?_
 revert H;refine cs (fun c1 H=>?_) fun c1 H=>?_
 refine Z2 ?_
 cases H
 refine qP ?_
 exact dC (.inr rfl) rfl rfl
 refine Z2 ?_
 refine Yy (fU (ψs:=[fI 2]) rfl aHx rfl (bH.cons (has rfl) (cC (aD trivial)) bH.nil) rfl) ?_
 refine Yy (sM rfl (iK rfl (xM [(.int .i64 2)])) aDC) ?_
 refine T_panic trivial rfl (has rfl) ?_
 cases H
 exact bP
def zT  :Option (aN ByteArray Bool):=
 some (aN.upd (aN.upd (aN.upd (aN.upd (aN.upd (aN.upd (aN.upd (aN.upd (aN.upd (aN.upd (aN.none:aN ByteArray Bool) ({ data:=#[97,110,100] }) true) ({ data:=#[100,101,102] }) true) ({ data:=#[101,108,115,101] }) true) ({ data:=#[103,111] }) true) ({ data:=#[105,102] }) true) ({ data:=#[105,110] }) true) ({ data:=#[112,108,97,99,101] }) true) ({ data:=#[115,116,111,112] }) true) ({ data:=#[116,104,101,110] }) true) ({ data:=#[119,97,116,99,104] }) true)
theorem aGR   (r:aN ByteArray Bool) (H:zT=some r):FnS Tryz.prog 173 [] [] (fMap kStr (fun y=>aJ y) r) (fun _=>[]):=by
 unfold zT at H
 refine bS Tryz.func173 rfl Tryz.ntmps173 rfl (fun β=>?_)
 refine Z4 ?_
 refine Tn (aBN (fun y=>aJ y) kStr rfl) fun b1=>?_
 refine jO (k:={ data:=#[97,110,100] }) (y:=true) trivial (.inr rfl) rfl (has rfl) (has rfl) rfl (has rfl) rfl kJ ?_
 refine jO (k:={ data:=#[100,101,102] }) (y:=true) trivial (.inr rfl) rfl (has rfl) (has rfl) rfl (has rfl) rfl kJ ?_
 refine jO (k:={ data:=#[101,108,115,101] }) (y:=true) trivial (.inr rfl) rfl (has rfl) (has rfl) rfl (has rfl) rfl kJ ?_
 refine jO (k:={ data:=#[103,111] }) (y:=true) trivial (.inr rfl) rfl (has rfl) (has rfl) rfl (has rfl) rfl kJ ?_
 refine jO (k:={ data:=#[105,102] }) (y:=true) trivial (.inr rfl) rfl (has rfl) (has rfl) rfl (has rfl) rfl kJ ?_
 refine jO (k:={ data:=#[105,110] }) (y:=true) trivial (.inr rfl) rfl (has rfl) (has rfl) rfl (has rfl) rfl kJ ?_
 refine jO (k:={ data:=#[112,108,97,99,101] }) (y:=true) trivial (.inr rfl) rfl (has rfl) (has rfl) rfl (has rfl) rfl kJ ?_
 refine jO (k:={ data:=#[115,116,111,112] }) (y:=true) trivial (.inr rfl) rfl (has rfl) (has rfl) rfl (has rfl) rfl kJ ?_
 refine jO (k:={ data:=#[116,104,101,110] }) (y:=true) trivial (.inr rfl) rfl (has rfl) (has rfl) rfl (has rfl) rfl kJ ?_
 refine jO (k:={ data:=#[119,97,116,99,104] }) (y:=true) trivial (.inr rfl) rfl (has rfl) (has rfl) rfl (has rfl) rfl kJ ?_
 refine Z4 ?_
 refine cJ (φ:=fMap kStr (fun y=>aJ y) (aN.upd (aN.upd (aN.upd (aN.upd (aN.upd (aN.upd (aN.upd (aN.upd (aN.upd (aN.upd (aN.none:aN ByteArray Bool) ({ data:=#[97,110,100] }) true) ({ data:=#[100,101,102] }) true) ({ data:=#[101,108,115,101] }) true) ({ data:=#[103,111] }) true) ({ data:=#[105,102] }) true) ({ data:=#[105,110] }) true) ({ data:=#[112,108,97,99,101] }) true) ({ data:=#[115,116,111,112] }) true) ({ data:=#[116,104,101,110] }) true) ({ data:=#[119,97,116,99,104] }) true)) (v:= .map (some b1)) [0,1,2] frz_map fz ?_
 refine cI ?_
 cases H
 exact To
def iA (a0:ByteArray):Nat → Int → Option ((Unit) ⊕ (Bool))
| 0,_=>none
| k+1,x2=>
 if x2<(a0.size:Int)then
  (sidx a0 x2).bind fun z1=>
  if z1<97 then
   (some false).bind fun r=>some (Sum.inr r)
  else
   (sidx a0 x2).bind fun z2=>
   if 122<z2 then
    (some false).bind fun r=>some (Sum.inr r)
   else
    (chk (x2+1)).bind fun z3=>
    iA a0 k z3
 else
  some (Sum.inl ())
def rJ (fuel:Nat) (a0:ByteArray):Option (Bool):=
 (iA a0 fuel 0).bind fun o=>match o with
 | Sum.inr r=>some r
 | Sum.inl _=>
 (if 0<(a0.size:Int)then
  if (a0.size:Int) ≤ 8 then
   (zT).bind fun y1=>
   some (!((y1.get a0).getD false))
  else
   some false
 else
  some false).bind fun x3=>
 some x3
theorem aIK (fuel:Nat)  (a0:ByteArray) (r:Bool) (H:rJ fuel a0=some r):FnS Tryz.prog 160 [gO a0] [] (aJ r) (fun _=>[]):=by
 unfold rJ at H
 refine bS Tryz.func160 rfl Tryz.ntmps160 rfl (fun β=>?_)
 revert H;refine B3 fun o1 H Hr1=>?_
 refine aO (ι:=Unit) (fun i=>o1=Sum.inl ()) (fun i=>[(0,gO a0)]) (fun i=>[]) ?_ ?_
 refine Z2 ?_
 refine Yy (sS rfl hh mR) ?_
 refine Z3 ?_
 refine Tl (ι:=Nat × Int) (fun i=>iA a0 i.1 i.2=_) (fun i=>i.1) (fun i=>[(0,gO a0),(5,fI (a0.size:Int)),(6,fI i.2)]) (fun i=>[]) (fuel,0) H ?_
 clear H;rintro⟨k1,x2⟩ H
 replace H:iA a0 k1 x2=_:=H
 try dsimp only
 obtain _ | k1:=k1
 rw [iA]at H;cases H
 rw [iA]at H
 refine Z3 ?_
 refine aI ?_
 revert H;refine is (fun c1 H=>?_) fun c1 H=>?_
 refine Z3 ?_
 refine aI ?_
 revert H;refine B8 fun z1 h1 H=>?_
 refine Yy (aAo rfl hh hh mR h1) ?_
 revert H;refine I2 (fun c2 H=>?_) fun c2 H=>?_
 refine Z12 ?_
 revert H;refine B4 fun r1 H e1=>?_
 cases e1;cases Hr1
 cases H
 exact To
 revert H;refine B2 fun z2 h2 H=>?_
 refine Yg c2 (aAo rfl hh hh mR h2) ?_
 revert H;refine I3 (fun c3 H=>?_) fun c3 H=>?_
 revert H;refine B10 fun r2 H e2=>?_
 cases e2;cases Hr1
 cases H
 exact To
 revert H;refine B5 fun z3 h3 H=>?_
 refine Z3 ?_
 exact Tm ((k1,z3)) ⟨H,ls⟩
 refine Z6 ?_
 exact Tm (()) (ij H)
 clear H;intro i hi;subst o1;have H:=Hr1;clear Hr1;try dsimp only at H
 try dsimp only
 revert H;refine bs fun o2 H Hr2=>?_
 refine aO (ι:=Bool) (fun i=>o2=i) (fun i=>[(2,aJ i)]) (fun i=>[]) ?_ ?_
 refine Z2 ?_
 refine Yy (sS rfl hh mR) ?_
 revert H;refine I2 (fun c4 H=>?_) fun c4 H=>?_
 refine Z1 ?_
 refine Yg c4 (sS rfl hh mR) ?_
 revert H;refine I3 (fun c5 H=>?_) fun c5 H=>?_
 revert H;refine bs fun y1 h4 H=>?_
 refine Tc (aGR _ h4) ?_
 refine Z1 ?_
 refine Yg c5 (o_lookup (zα:=false) (k:=a0) rfl hh hh rfl kJ Ent.rfl) ?_
 refine Z4 ?_
 exact Tm (!((y1.get a0).getD false)) (ij H)
 refine Z7 ?_
 exact Tm (false) (ij H)
 refine Z12 ?_
 exact Tm (false) (ij H)
 clear H;intro x3 hi;subst o2;have H:=Hr2;clear Hr2;try dsimp only at H
 try dsimp only
 refine Z1 ?_
 cases H
 exact To
def jI (a0:Int):Option (Value):=
 (if a0=1 then
  some (decide (a0=1))
 else
  some (decide (a0=7))).bind fun x1=>
 bif x1 then
  some ((.iface 271 (.int .i64 0)):Value)
 else
  if a0=3 then
   some ((.iface 271 (.int .i64 2)):Value)
  else
   if a0=2 then
    some ((.iface 259 (.agg ([]:List Value).toArray)):Value)
   else
    if a0=5 then
     some ((.iface 262 (.agg ([]:List Value).toArray)):Value)
    else
     (if a0=6 then
      some (decide (a0=6))
     else
      some (decide (a0=8))).bind fun x2=>
     bif x2 then
      some ((.iface 260 (.agg ([]:List Value).toArray)):Value)
     else
      if a0=4 then
       some ((.iface 261 (.agg ([]:List Value).toArray)):Value)
      else
       some (Go.Value.nilIface:Value)
theorem aH8  (a0:Int) (r:Value) (H:jI a0=some r):FnS Tryz.prog 174 [fI a0] [] (eC r) (fun _=>[]):=by
 unfold jI at H
 refine bS Tryz.func174 rfl Tryz.ntmps174 rfl (fun β=>?_)
 refine Z3 ?_
 refine aI ?_
 revert H;refine B4 fun o1 H Hr1=>?_
 refine aO (ι:=Bool) (fun i=>o1=i) (fun i=>[(3,fI a0),(4,aJ i)]) (fun i=>[]) ?_ ?_
 revert H;refine I4 (fun c1 H=>?_) fun c1 H=>?_
 refine Z3 ?_
 exact Tm (decide (a0=1)) (ij H)
 refine Z5 ?_
 exact Tm (decide (a0=7)) (ij H)
 clear H;intro x1 hi;subst o1;have H:=Hr1;clear Hr1;try dsimp only at H
 try dsimp only
 revert H;refine cs (fun c2 H=>?_) fun c2 H=>?_
 refine Z2 ?_
 refine Yy (sM rfl hh aDy) ?_
 refine Z5 ?_
 cases H
 exact dQ rfl (jV rfl (qS trivial)) rfl
 revert H;refine I5 (fun c3 H=>?_) fun c3 H=>?_
 refine Z2 ?_
 refine Yy (sM rfl hh aDy) ?_
 refine Z5 ?_
 cases H
 exact dQ rfl (jV rfl (qS trivial)) rfl
 revert H;refine I5 (fun c4 H=>?_) fun c4 H=>?_
 refine Z2 ?_
 refine Yy (fU (ψs:=[]) rfl aG3 rfl bH.nil rfl) ?_
 refine Yy (sM rfl (iK rfl (xM [])) aED) ?_
 refine Z5 ?_
 cases H
 exact dQ rfl (jV rfl (qS trivial)) rfl
 revert H;refine I5 (fun c5 H=>?_) fun c5 H=>?_
 refine Z2 ?_
 refine Yy (fU (ψs:=[]) rfl aF0 rfl bH.nil rfl) ?_
 refine Yy (sM rfl (iK rfl (xM [])) aEr) ?_
 refine Z5 ?_
 cases H
 exact dQ rfl (jV rfl (qS trivial)) rfl
 revert H;refine B1 fun o2 H Hr2=>?_
 refine aO (ι:=Bool) (fun i=>o2=i) (fun i=>[(3,fI a0),(19,aJ i)]) (fun i=>[]) ?_ ?_
 revert H;refine I4 (fun c6 H=>?_) fun c6 H=>?_
 refine Z3 ?_
 exact Tm (decide (a0=6)) (ij H)
 refine Z5 ?_
 exact Tm (decide (a0=8)) (ij H)
 clear H;intro x2 hi;subst o2;have H:=Hr2;clear Hr2;try dsimp only at H
 try dsimp only
 revert H;refine cs (fun c7 H=>?_) fun c7 H=>?_
 refine Z2 ?_
 refine Yy (fU (ψs:=[]) rfl aIH rfl bH.nil rfl) ?_
 refine Yy (sM rfl (iK rfl (xM [])) aEp) ?_
 refine Z5 ?_
 cases H
 exact dQ rfl (jV rfl (qS trivial)) rfl
 revert H;refine I5 (fun c8 H=>?_) fun c8 H=>?_
 refine Z2 ?_
 refine Yy (fU (ψs:=[]) rfl aGe rfl bH.nil rfl) ?_
 refine Yy (sM rfl (iK rfl (xM [])) aEE) ?_
 refine Z5 ?_
 cases H
 exact dQ rfl (jV rfl (qS trivial)) rfl
 refine Z8 ?_
 cases H
 exact dQ rfl (jV rfl (qS trivial)) rfl
open Go.SX Go.SW Go.Dt
def nZ (rec_scope_exp_1:ScopeExp → Int → Int → Int → Option (Int ⊕ Value)) (a0:ScopeExp) (a1:Int) (w1:Int):Nat → Int → Int → Option (Int ⊕ Value)
| 0,_,_=>none
| k+1,x4,x5=>
 if x4<(a0.Kids.length:Int)then
  (idx a0.Kids x4).bind fun y12=>
  (chk (a1+1)).bind fun z2=>
  (rec_scope_exp_1 (⟨y12.Op,y12.N,y12.Kids⟩:ScopeExp) z2 x5 w1).bind fun y13=>
  match y13 with
  | Sum.inr pv12=>some (Sum.inr pv12)
  | Sum.inl y13=>
  (chk (x4+1)).bind fun z3=>
  nZ rec_scope_exp_1 a0 a1 w1 k z3 y13
 else
  some (Sum.inl x5)
def mL:Nat → ScopeExp → Int → Int → Int → Option (Int ⊕ Value)
| 0,_,_,_,_=>none
| fuel+1,a0,a1,w0,w1=>
 (chk (w0+1)).bind fun z1=>
 (if z1 ≤ 60 then
  (bM (decide (a1 ≤ 12))).bind fun y1=>
  match y1 with
  | Sum.inr pv1=>(some (Sum.inr pv1)).bind fun r=>some (Sum.inr r)
  | Sum.inl y1=>
  some (Sum.inl ())
 else
  (bM false).bind fun y2=>
  match y2 with
  | Sum.inr pv2=>(some (Sum.inr pv2)).bind fun r=>some (Sum.inr r)
  | Sum.inl y2=>
  some (Sum.inl ())).bind fun o=>match o with
 | Sum.inr r=>some r
 | Sum.inl _=>
 (if a0.Op=1 then
  if (-1000000000) ≤ a0.N then
   if a0.N ≤ 1000000000 then
    (bM (decide ((a0.Kids.length:Int)=0))).bind fun y3=>
    match y3 with
    | Sum.inr pv3=>(some (Sum.inr pv3)).bind fun r=>some (Sum.inr r)
    | Sum.inl y3=>
    some (Sum.inl ())
   else
    (bM false).bind fun y4=>
    match y4 with
    | Sum.inr pv4=>(some (Sum.inr pv4)).bind fun r=>some (Sum.inr r)
    | Sum.inl y4=>
    some (Sum.inl ())
  else
   (bM false).bind fun y5=>
   match y5 with
   | Sum.inr pv5=>(some (Sum.inr pv5)).bind fun r=>some (Sum.inr r)
   | Sum.inl y5=>
   some (Sum.inl ())
 else
  if a0.Op=2 then
   if 0 ≤ a0.N then
    if a0.N<w1 then
     (bM (decide ((a0.Kids.length:Int)=0))).bind fun y6=>
     match y6 with
     | Sum.inr pv6=>(some (Sum.inr pv6)).bind fun r=>some (Sum.inr r)
     | Sum.inl y6=>
     some (Sum.inl ())
    else
     (bM false).bind fun y7=>
     match y7 with
     | Sum.inr pv7=>(some (Sum.inr pv7)).bind fun r=>some (Sum.inr r)
     | Sum.inl y7=>
     some (Sum.inl ())
   else
    (bM false).bind fun y8=>
    match y8 with
    | Sum.inr pv8=>(some (Sum.inr pv8)).bind fun r=>some (Sum.inr r)
    | Sum.inl y8=>
    some (Sum.inl ())
  else
   (if a0.Op=3 then
    some (decide (a0.Op=3))
   else
    if a0.Op=4 then
     some (decide (a0.Op=4))
    else
     if a0.Op=5 then
      some (decide (a0.Op=5))
     else
      if a0.Op=6 then
       some (decide (a0.Op=6))
      else
       some (decide (a0.Op=7))).bind fun x1=>
   bif x1 then
    if a0.N=0 then
     (bM (decide ((a0.Kids.length:Int)=2))).bind fun y9=>
     match y9 with
     | Sum.inr pv9=>(some (Sum.inr pv9)).bind fun r=>some (Sum.inr r)
     | Sum.inl y9=>
     some (Sum.inl ())
    else
     (bM false).bind fun y10=>
     match y10 with
     | Sum.inr pv10=>(some (Sum.inr pv10)).bind fun r=>some (Sum.inr r)
     | Sum.inl y10=>
     some (Sum.inl ())
   else
    (bM false).bind fun y11=>
    match y11 with
    | Sum.inr pv11=>(some (Sum.inr pv11)).bind fun r=>some (Sum.inr r)
    | Sum.inl y11=>
    some (Sum.inl ())).bind fun o=>match o with
 | Sum.inr r=>some r
 | Sum.inl _=>
 nZ (mL fuel) a0 a1 w1 fuel 0 z1
theorem aD1:∀ (fuel:Nat),(∀ (q0:Nat) (q2:Nat) (a0:ScopeExp) (a1:Int) (w0:Int) (w1:Int) (r:Int ⊕ Value) (H:mL fuel a0 a1 w0 w1=some r),FnE Tryz.prog 185 [fSt cF a0,fI a1,fEq (.pointer (some ⟨q0,0,none⟩)),bG tI w1,fEq (.pointer (some ⟨q2,0,none⟩))] [aA q0 3 [fI w0],aA q2 263 [fB 185 [fEq (.pointer (some ⟨q0,0,none⟩)),bG tI w1,fEq (.pointer (some ⟨q2,0,none⟩))]]] r (fun r=>dG []) (fun r=>[aA q0 3 [fI r],aA q2 263 [fB 185 [fEq (.pointer (some ⟨q0,0,none⟩)),bG tI w1,fEq (.pointer (some ⟨q2,0,none⟩))]]])):=by
 intro fuel
 induction fuel with
 | zero=>exact fun q0 q2 a0 a1 w0 w1 r H=>(by rw [mL]at H;cases H)
 | succ fuel ih=>
 have ih_scope_exp_1:=@ih
 refine ?_
 intro q0 q2 a0 a1 w0 w1 r H
 rw [mL]at H
 refine rK Tryz.func185 rfl Tryz.ntmps185 rfl (fun β=>?_)
 refine Z1 ?_
 refine Tn (cO rfl hh bW) fun b1=>?_
 revert H;refine B3 fun z1 h1 H=>?_
 refine Z1 ?_
 refine bZ ?_
 refine cR (φs':=[fI z1]) trivial rfl rfl (has rfl) (has rfl) (aD trivial) (sz rfl) rfl rfl ?_
 revert H;refine B1 fun o1 H Hr1=>?_
 refine aO (ι:=Unit) (fun i=>o1=Sum.inl ()) (fun i=>[(1,fI a1),(2,fEq (ptr q0)),(3,bG tI w1),(4,fEq (ptr q2)),(5,fEq (ptr b1))]) (fun i=>[aA q0 3 [fI z1],aA b1 143 [fI a0.Op,fI a0.N,fW a0.Kids],aA q2 263 [fB 185 [fEq (ptr q0),bG tI w1,fEq (ptr q2)]]]) ?_ ?_
 revert H;refine I4 (fun c1 H=>?_) fun c1 H=>?_
 revert H;refine B3 fun y1 h2 H=>?_
 rcases y1 with y1 | pv1 <;> dsimp only at H
 refine Tc (aT _ _ h2).s ?_
 refine Z1 ?_
 exact Tm (()) (ij H)
 refine Tp (aT _ _ h2).pan ?_
 revert H;refine B1 fun r1 H e1=>?_
 cases e1;cases Hr1
 cases H
 exact bP
 revert H;refine B3 fun y2 h3 H=>?_
 rcases y2 with y2 | pv2 <;> dsimp only at H
 refine Tc (aT _ _ h3).s ?_
 refine Z1 ?_
 exact Tm (()) (ij H)
 refine Tp (aT _ _ h3).pan ?_
 revert H;refine B1 fun r2 H e2=>?_
 cases e2;cases Hr1
 cases H
 exact bP
 clear H;intro i hi;subst o1;have H:=Hr1;clear Hr1;try dsimp only at H
 try dsimp only
 revert H;refine bs fun o2 H Hr2=>?_
 refine aO (ι:=Unit) (fun i=>o2=Sum.inl ()) (fun i=>[(1,fI a1),(2,fEq (ptr q0)),(4,fEq (ptr q2)),(5,fEq (ptr b1))]) (fun i=>[aA q0 3 [fI z1],aA b1 143 [fI a0.Op,fI a0.N,fW a0.Kids],aA q2 263 [fB 185 [fEq (ptr q0),bG tI w1,fEq (ptr q2)]]]) ?_ ?_
 revert H;refine I9 (fun c2 H=>?_) fun c2 H=>?_
 revert H;refine I6 (fun c3 H=>?_) fun c3 H=>?_
 revert H;refine I5 (fun c4 H=>?_) fun c4 H=>?_
 refine Z1 ?_
 refine Yh 1 rfl c4 (bK rfl hh (sc rfl) rfl (gL gF)) ?_
 revert H;refine B3 fun y3 h4 H=>?_
 rcases y3 with y3 | pv3 <;> dsimp only at H
 refine Tc (aT _ _ h4).s ?_
 refine Z3 ?_
 exact Tm (()) (ij H)
 refine Tp (aT _ _ h4).pan ?_
 revert H;refine B2 fun r3 H e3=>?_
 cases e3;cases Hr2
 cases H
 exact bP
 revert H;refine B5 fun y4 h5 H=>?_
 rcases y4 with y4 | pv4 <;> dsimp only at H
 refine Tc (aT _ _ h5).s ?_
 refine Z3 ?_
 exact Tm (()) (ij H)
 refine Tp (aT _ _ h5).pan ?_
 revert H;refine B2 fun r4 H e4=>?_
 cases e4;cases Hr2
 cases H
 exact bP
 revert H;refine B10 fun y5 h6 H=>?_
 rcases y5 with y5 | pv5 <;> dsimp only at H
 refine Tc (aT _ _ h6).s ?_
 refine Z3 ?_
 exact Tm (()) (ij H)
 refine Tp (aT _ _ h6).pan ?_
 revert H;refine B2 fun r5 H e5=>?_
 cases e5;cases Hr2
 cases H
 exact bP
 revert H;refine I5 (fun c5 H=>?_) fun c5 H=>?_
 revert H;refine I6 (fun c6 H=>?_) fun c6 H=>?_
 revert H;refine I6 (fun c7 H=>?_) fun c7 H=>?_
 refine Z1 ?_
 refine Yh 1 rfl c7 (bK rfl hh (sc rfl) rfl (gL gF)) ?_
 revert H;refine B3 fun y6 h7 H=>?_
 rcases y6 with y6 | pv6 <;> dsimp only at H
 refine Tc (aT _ _ h7).s ?_
 refine Z3 ?_
 exact Tm (()) (ij H)
 refine Tp (aT _ _ h7).pan ?_
 revert H;refine B2 fun r6 H e6=>?_
 cases e6;cases Hr2
 cases H
 exact bP
 revert H;refine B5 fun y7 h8 H=>?_
 rcases y7 with y7 | pv7 <;> dsimp only at H
 refine Tc (aT _ _ h8).s ?_
 refine Z3 ?_
 exact Tm (()) (ij H)
 refine Tp (aT _ _ h8).pan ?_
 revert H;refine B2 fun r7 H e7=>?_
 cases e7;cases Hr2
 cases H
 exact bP
 revert H;refine B11 fun y8 h9 H=>?_
 rcases y8 with y8 | pv8 <;> dsimp only at H
 refine Tc (aT _ _ h9).s ?_
 refine Z3 ?_
 exact Tm (()) (ij H)
 refine Tp (aT _ _ h9).pan ?_
 revert H;refine B2 fun r8 H e8=>?_
 cases e8;cases Hr2
 cases H
 exact bP
 revert H;refine B1 fun o3 H Hr3=>?_
 refine aO (ι:=Bool) (fun i=>o3=i) (fun i=>[(1,fI a1),(2,fEq (ptr q0)),(4,fEq (ptr q2)),(5,fEq (ptr b1)),(56,aJ i)]) (fun i=>[aA q0 3 [fI z1],aA b1 143 [fI a0.Op,fI a0.N,fW a0.Kids],aA q2 263 [fB 185 [fEq (ptr q0),bG tI w1,fEq (ptr q2)]]]) ?_ ?_
 revert H;refine I4 (fun c8 H=>?_) fun c8 H=>?_
 refine Z3 ?_
 exact Tm (decide (a0.Op=3)) (ij H)
 revert H;refine I5 (fun c9 H=>?_) fun c9 H=>?_
 refine Z3 ?_
 exact Tm (decide (a0.Op=4)) (ij H)
 revert H;refine I5 (fun c10 H=>?_) fun c10 H=>?_
 refine Z3 ?_
 exact Tm (decide (a0.Op=5)) (ij H)
 revert H;refine I5 (fun c11 H=>?_) fun c11 H=>?_
 refine Z3 ?_
 exact Tm (decide (a0.Op=6)) (ij H)
 refine Z5 ?_
 exact Tm (decide (a0.Op=7)) (ij H)
 clear H;intro x1 hi;subst o3;have H:=Hr3;clear Hr3;try dsimp only at H
 try dsimp only
 revert H;refine cs (fun c12 H=>?_) fun c12 H=>?_
 revert H;refine I6 (fun c13 H=>?_) fun c13 H=>?_
 refine Z1 ?_
 refine Yh 1 rfl c13 (bK rfl hh (sc rfl) rfl (gL gF)) ?_
 revert H;refine B3 fun y9 h10 H=>?_
 rcases y9 with y9 | pv9 <;> dsimp only at H
 refine Tc (aT _ _ h10).s ?_
 refine Z3 ?_
 exact Tm (()) (ij H)
 refine Tp (aT _ _ h10).pan ?_
 revert H;refine B2 fun r9 H e9=>?_
 cases e9;cases Hr2
 cases H
 exact bP
 revert H;refine B5 fun y10 h11 H=>?_
 rcases y10 with y10 | pv10 <;> dsimp only at H
 refine Tc (aT _ _ h11).s ?_
 refine Z3 ?_
 exact Tm (()) (ij H)
 refine Tp (aT _ _ h11).pan ?_
 revert H;refine B2 fun r10 H e10=>?_
 cases e10;cases Hr2
 cases H
 exact bP
 revert H;refine B2 fun y11 h12 H=>?_
 rcases y11 with y11 | pv11 <;> dsimp only at H
 refine Tc (aT _ _ h12).s ?_
 refine Z3 ?_
 exact Tm (()) (ij H)
 refine Tp (aT _ _ h12).pan ?_
 revert H;refine B2 fun r11 H e11=>?_
 cases e11;cases Hr2
 cases H
 exact bP
 clear H;intro i hi;subst o2;have H:=Hr2;clear Hr2;try dsimp only at H
 try dsimp only
 refine Z2 ?_
 refine Yo 1 rfl (bK rfl hh (sc rfl) rfl (gL gF)) ?_
 refine Z4 ?_
 refine Tl (ι:=Nat × Int × Int) (fun i=>nZ (mL fuel) a0 a1 w1 i.1 i.2.1 i.2.2=_) (fun i=>i.1) (fun i=>[(1,fI a1),(2,fEq (ptr q0)),(4,fEq (ptr q2)),(73,fSl cF a0.Kids),(74,fI (a0.Kids.length:Int)),(75,fI i.2.1)]) (fun i=>[aA q0 3 [fI i.2.2],aA b1 143 [fI a0.Op,fI a0.N,fW a0.Kids],aA q2 263 [fB 185 [fEq (ptr q0),bG tI w1,fEq (ptr q2)]]]) (fuel,0,z1) H ?_
 clear H;rintro⟨k1,x4,x5⟩ H
 replace H:nZ (mL fuel) a0 a1 w1 k1 x4 x5=_:=H
 try dsimp only
 obtain _ | k1:=k1
 rw [nZ]at H;cases H
 rw [nZ]at H
 refine Z3 ?_
 refine aI ?_
 revert H;refine is (fun c14 H=>?_) fun c14 H=>?_
 refine Z3 ?_
 refine aI ?_
 revert H;refine B2 fun y12 h13 H=>?_
 refine Z2 ?_
 refine Tn (cV rfl aCi rfl) fun b2=>?_
 refine dR (φs':=[fI y12.Op,fI y12.N,fW y12.Kids]) trivial rfl rfl (has rfl) (has rfl) (aK (aD trivial) (aK (aD trivial) (aK (aAE) bY))) (sz rfl) rfl rfl rfl ?_
 revert H;refine B5 fun z2 h14 H=>?_
 refine Z1 ?_
 refine bO ?_
 refine aM ?_
 revert H;refine bs fun y13 h15 H=>?_
 rcases y13 with y13 | pv12 <;> dsimp only at H
 refine sT trivial rfl rfl rfl (has rfl) (aL.cons (has rfl) (aL.cons (has rfl) aL.nil)) rfl (cb rfl) (ih_scope_exp_1 q0 q2 (⟨y12.Op,y12.N,y12.Kids⟩:ScopeExp) z2 x5 w1 (Sum.inl y13) h15).s rfl ?_
 revert H;refine B4 fun z3 h16 H=>?_
 refine Z3 ?_
 refine aH [0,3,1] (by decide) ?_
 exact Tm ((k1,z3,y13)) ⟨H,ls⟩
 refine aAu trivial rfl (has rfl) (aL.cons (has rfl) (aL.cons (has rfl) aL.nil)) rfl (cb rfl) (ih_scope_exp_1 q0 q2 (⟨y12.Op,y12.N,y12.Kids⟩:ScopeExp) z2 x5 w1 (Sum.inr pv12) h15).pan rfl ?_
 refine Z4 ?_
 cases H
 exact bP
 refine Z5 ?_
 cases H
 refine qP ?_
 refine aH [0,2] (by decide) ?_
 exact dC (.inr rfl) rfl rfl
def xK (fuel:Nat) (a0:ScopeExp) (a1:Int):Option (Unit ⊕ Value):=
 (mL fuel (⟨a0.Op,a0.N,a0.Kids⟩:ScopeExp) 1 0 a1).bind fun y1=>
 match y1 with
 | Sum.inr pv1=>some (Sum.inr pv1)
 | Sum.inl y1=>
 some (Sum.inl ())
theorem aDd (fuel:Nat)  (a0:ScopeExp) (a1:Int) (r:Unit ⊕ Value) (H:xK fuel a0 a1=some r):FnE Tryz.prog 175 [fSt cF a0,fI a1] [] r (fun r=>dG []) (fun r=>[]):=by
 unfold xK at H
 refine rK Tryz.func175 rfl Tryz.ntmps175 rfl (fun β=>?_)
 refine Z1 ?_
 refine Tn (cO rfl hh bW) fun b1=>?_
 refine Tn (cO rfl (has rfl) (cC (aD trivial))) fun b2=>?_
 refine Z2 ?_
 refine Tn (cV rfl sD rfl) fun b3=>?_
 refine cR (φs':=[fI 0]) trivial rfl rfl (has rfl) (has rfl) (aD trivial) (sz rfl) rfl rfl ?_
 refine Z2 ?_
 refine Tn (cV rfl aIJ rfl) fun b4=>?_
 refine Z2 ?_
 refine aM ?_
 refine cJ (φ:=bG tI a1) (v:=ptr b2) [3] (kG aP.rfl) fz ?_
 refine cI ?_
 refine Yy (o_clo rfl (aL.cons hh (aL.cons hh (aL.cons hh aL.nil)))) ?_
 refine cR (φs':=[fB 185 [fEq (ptr b3),bG tI a1,fEq (ptr b4)]]) trivial rfl rfl (has rfl) (has rfl) (leaf_clo) (sz rfl) rfl rfl ?_
 refine Z4 ?_
 refine bZ ?_
 revert H;refine bs fun y1 h1 H=>?_
 rcases y1 with y1 | pv1 <;> dsimp only at H
 refine sT trivial rfl rfl rfl (has rfl) (aL.cons (has rfl) (aL.cons (has rfl) aL.nil)) rfl (cb rfl) (aD1 fuel b3 b4 (⟨a0.Op,a0.N,a0.Kids⟩:ScopeExp) 1 0 a1 (Sum.inl y1) h1).s rfl ?_
 refine Z1 ?_
 cases H
 refine qP ?_
 refine aH [] (by decide) ?_
 exact dC (.inr rfl) rfl rfl
 refine aAu trivial rfl (has rfl) (aL.cons (has rfl) (aL.cons (has rfl) aL.nil)) rfl (cb rfl) (aD1 fuel b3 b4 (⟨a0.Op,a0.N,a0.Kids⟩:ScopeExp) 1 0 a1 (Sum.inr pv1) h1).pan rfl ?_
 cases H
 exact bP
open Go.SX Go.SW Go.Dt
def tB (a0:Int) (w0:ScopeDef):Option (Unit ⊕ Value):=
 if 0 ≤ a0 then
  (bM (decide (a0 ≤ (w0.Spots.length:Int)))).bind fun y1=>
  match y1 with
  | Sum.inr pv1=>some (Sum.inr pv1)
  | Sum.inl y1=>
  some (Sum.inl ())
 else
  (bM false).bind fun y2=>
  match y2 with
  | Sum.inr pv2=>some (Sum.inr pv2)
  | Sum.inl y2=>
  some (Sum.inl ())
theorem aAS  (a0:Int) (w0:ScopeDef) (r:Unit ⊕ Value) (H:tB a0 w0=some r):FnE Tryz.prog 186 [fI a0,bG aB w0] [] r (fun r=>dG []) (fun r=>[]):=by
 unfold tB at H
 refine rK Tryz.func186 rfl Tryz.ntmps186 rfl (fun β=>?_)
 revert H;refine I4 (fun c1 H=>?_) fun c1 H=>?_
 revert H;refine B6 fun y1 h1 H=>?_
 rcases y1 with y1 | pv1 <;> dsimp only at H
 refine Tc (aT _ _ h1).s ?_
 refine Z1 ?_
 cases H
 refine qP ?_
 exact dC (.inr rfl) rfl rfl
 refine Tp (aT _ _ h1).pan ?_
 cases H
 exact bP
 revert H;refine B6 fun y2 h2 H=>?_
 rcases y2 with y2 | pv2 <;> dsimp only at H
 refine Tc (aT _ _ h2).s ?_
 refine Z1 ?_
 cases H
 refine qP ?_
 exact dC (.inr rfl) rfl rfl
 refine Tp (aT _ _ h2).pan ?_
 cases H
 exact bP
def oH (a0:ScopeDef):Nat → Int → Option ((Unit) ⊕ (Unit ⊕ Value))
| 0,_=>none
| k+1,x2=>
 if x2<(((⟨a0.Chans,a0.Spots,a0.Rules⟩:ScopeDef).Chans).length:Int)then
  ((idx ((⟨a0.Chans,a0.Spots,a0.Rules⟩:ScopeDef).Chans) x2).bind fun y4=>
  (tB y4.At (⟨a0.Chans,a0.Spots,a0.Rules⟩:ScopeDef)).bind fun y5=>
  match y5 with
  | Sum.inr pv4=>((some (Sum.inr pv4)).bind fun r=>some (Sum.inr r)).bind fun r=>some (Sum.inr r)
  | Sum.inl y5=>
  if 0 ≤ y4.Many then
   (bM (decide (y4.Many ≤ 3))).bind fun y6=>
   match y6 with
   | Sum.inr pv5=>((some (Sum.inr pv5)).bind fun r=>some (Sum.inr r)).bind fun r=>some (Sum.inr r)
   | Sum.inl y6=>
   some (Sum.inl ())
  else
   (bM false).bind fun y7=>
   match y7 with
   | Sum.inr pv6=>((some (Sum.inr pv6)).bind fun r=>some (Sum.inr r)).bind fun r=>some (Sum.inr r)
   | Sum.inl y7=>
   some (Sum.inl ())).bind fun o=>match o with
  | Sum.inr r=>some r
  | Sum.inl _=>
  (chk (x2+1)).bind fun z1=>
  oH a0 k z1
 else
  some (Sum.inl ())
def nM (a0:ScopeDef):Nat → Int → Option ((Unit) ⊕ (Unit ⊕ Value))
| 0,_=>none
| k+1,x4=>
 if x4<(((⟨a0.Chans,a0.Spots,a0.Rules⟩:ScopeDef).Spots).length:Int)then
  ((idx ((⟨a0.Chans,a0.Spots,a0.Rules⟩:ScopeDef).Spots) x4).bind fun y8=>
  if 0 ≤ y8.In then
   (bM (decide (y8.In ≤ x4))).bind fun y9=>
   match y9 with
   | Sum.inr pv7=>((some (Sum.inr pv7)).bind fun r=>some (Sum.inr r)).bind fun r=>some (Sum.inr r)
   | Sum.inl y9=>
   some (Sum.inl ())
  else
   (bM false).bind fun y10=>
   match y10 with
   | Sum.inr pv8=>((some (Sum.inr pv8)).bind fun r=>some (Sum.inr r)).bind fun r=>some (Sum.inr r)
   | Sum.inl y10=>
   some (Sum.inl ())).bind fun o=>match o with
  | Sum.inr r=>some r
  | Sum.inl _=>
  (chk (x4+1)).bind fun z2=>
  nM a0 k z2
 else
  some (Sum.inl ())
def jK (fuel:Nat) (a0:ScopeDef) (y11:ScopeRule):Nat → Int → (aN Int Bool) → Option ((aN Int Bool) ⊕ ((aN Int Bool) ⊕ (Unit ⊕ Value)))
| 0,_,_=>none
| k+1,x13,x14=>
 if x13<(y11.Joins.length:Int)then
  (idx y11.Joins x13).bind fun y15=>
  (if 0 ≤ y15 then
   if y15<(((⟨a0.Chans,a0.Spots,a0.Rules⟩:ScopeDef).Chans).length:Int)then
    (idx ((⟨a0.Chans,a0.Spots,a0.Rules⟩:ScopeDef).Chans) y15).bind fun y16=>
    if y16.At=y11.At then
     (slc y11.Joins 0 x13).bind fun y17=>
     (yH fuel y17 y15).bind fun y18=>
     (bM (!y18)).bind fun y19=>
     match y19 with
     | Sum.inr pv12=>(((some (Sum.inr pv12)).bind fun r=>some (Sum.inr r)).bind fun r=>some (Sum.inr r)).bind fun r=>some (Sum.inr r)
     | Sum.inl y19=>
     some (Sum.inl ())
    else
     (bM false).bind fun y20=>
     match y20 with
     | Sum.inr pv13=>(((some (Sum.inr pv13)).bind fun r=>some (Sum.inr r)).bind fun r=>some (Sum.inr r)).bind fun r=>some (Sum.inr r)
     | Sum.inl y20=>
     some (Sum.inl ())
   else
    (bM false).bind fun y21=>
    match y21 with
    | Sum.inr pv14=>(((some (Sum.inr pv14)).bind fun r=>some (Sum.inr r)).bind fun r=>some (Sum.inr r)).bind fun r=>some (Sum.inr r)
    | Sum.inl y21=>
    some (Sum.inl ())
  else
   (bM false).bind fun y22=>
   match y22 with
   | Sum.inr pv15=>(((some (Sum.inr pv15)).bind fun r=>some (Sum.inr r)).bind fun r=>some (Sum.inr r)).bind fun r=>some (Sum.inr r)
   | Sum.inl y22=>
   some (Sum.inl ())).bind fun o=>match o with
  | Sum.inr r=>some r
  | Sum.inl _=>
  (chk (x13+1)).bind fun z3=>
  jK fuel a0 y11 k z3 (aN.upd x14 y15 true)
 else
  some (Sum.inl x14)
def mN (fuel:Nat) (a0:ScopeDef):Nat → Int → (aN Int Bool) → Option ((aN Int Bool) ⊕ (Unit ⊕ Value))
| 0,_,_=>none
| k+1,x8,x9=>
 if x8<(((⟨a0.Chans,a0.Spots,a0.Rules⟩:ScopeDef).Rules).length:Int)then
  ((idx ((⟨a0.Chans,a0.Spots,a0.Rules⟩:ScopeDef).Rules) x8).bind fun y11=>
  (tB y11.At (⟨a0.Chans,a0.Spots,a0.Rules⟩:ScopeDef)).bind fun y12=>
  match y12 with
  | Sum.inr pv9=>((some (Sum.inr pv9)).bind fun r=>some (Sum.inr r)).bind fun r=>some (Sum.inr r)
  | Sum.inl y12=>
  (if 0<(y11.Joins.length:Int)then
   (bM (decide ((y11.Joins.length:Int) ≤ 3))).bind fun y13=>
   match y13 with
   | Sum.inr pv10=>(((some (Sum.inr pv10)).bind fun r=>some (Sum.inr r)).bind fun r=>some (Sum.inr r)).bind fun r=>some (Sum.inr r)
   | Sum.inl y13=>
   some (Sum.inl ())
  else
   (bM false).bind fun y14=>
   match y14 with
   | Sum.inr pv11=>(((some (Sum.inr pv11)).bind fun r=>some (Sum.inr r)).bind fun r=>some (Sum.inr r)).bind fun r=>some (Sum.inr r)
   | Sum.inl y14=>
   some (Sum.inl ())).bind fun o=>match o with
  | Sum.inr r=>some r
  | Sum.inl _=>
  jK fuel a0 y11 fuel 0 x9).bind fun o=>match o with
  | Sum.inr r=>some r
  | Sum.inl x10=>
  (chk (x8+1)).bind fun z4=>
  mN fuel a0 k z4 x10
 else
  some (Sum.inl x9)
def tJ (fuel:Nat) (a0:ScopeDef):Option (Unit ⊕ Value):=
 (if (a0.Chans.length:Int) ≤ 30 then
  if (a0.Spots.length:Int) ≤ 30 then
   (bM (decide ((a0.Rules.length:Int) ≤ 30))).bind fun y1=>
   match y1 with
   | Sum.inr pv1=>(some (Sum.inr pv1)).bind fun r=>some (Sum.inr r)
   | Sum.inl y1=>
   some (Sum.inl ())
  else
   (bM false).bind fun y2=>
   match y2 with
   | Sum.inr pv2=>(some (Sum.inr pv2)).bind fun r=>some (Sum.inr r)
   | Sum.inl y2=>
   some (Sum.inl ())
 else
  (bM false).bind fun y3=>
  match y3 with
  | Sum.inr pv3=>(some (Sum.inr pv3)).bind fun r=>some (Sum.inr r)
  | Sum.inl y3=>
  some (Sum.inl ())).bind fun o=>match o with
 | Sum.inr r=>some r
 | Sum.inl _=>
 (oH a0 fuel 0).bind fun o=>match o with
 | Sum.inr r=>some r
 | Sum.inl _=>
 (nM a0 fuel 0).bind fun o=>match o with
 | Sum.inr r=>some r
 | Sum.inl _=>
 (mN fuel a0 fuel 0 (aN.none:aN Int Bool)).bind fun o=>match o with
 | Sum.inr r=>some r
 | Sum.inl x5=>
 (bM (decide ((x5.size:Int)=(((⟨a0.Chans,a0.Spots,a0.Rules⟩:ScopeDef).Chans).length:Int)))).bind fun y23=>
 match y23 with
 | Sum.inr pv16=>some (Sum.inr pv16)
 | Sum.inl y23=>
 some (Sum.inl ())
theorem aC0 (fuel:Nat)  (a0:ScopeDef) (r:Unit ⊕ Value) (H:tJ fuel a0=some r):FnE Tryz.prog 176 [fSt aB a0] [] r (fun r=>dG []) (fun r=>[]):=by
 unfold tJ at H
 refine rK Tryz.func176 rfl Tryz.ntmps176 rfl (fun β=>?_)
 refine Z1 ?_
 refine Tn (cO rfl hh bW) fun b1=>?_
 revert H;refine B1 fun o1 H Hr1=>?_
 refine aO (ι:=Unit) (fun i=>o1=Sum.inl ()) (fun i=>[(1,fEq (ptr b1))]) (fun i=>[aA b1 63 [fSl aS a0.Chans,fSl aY a0.Spots,fSl aZ a0.Rules]]) ?_ ?_
 revert H;refine I6 (fun c1 H=>?_) fun c1 H=>?_
 revert H;refine I6 (fun c2 H=>?_) fun c2 H=>?_
 revert H;refine B5 fun y1 h1 H=>?_
 rcases y1 with y1 | pv1 <;> dsimp only at H
 refine Tc (aT _ _ h1).s ?_
 refine Z1 ?_
 exact Tm (()) (ij H)
 refine Tp (aT _ _ h1).pan ?_
 revert H;refine B1 fun r1 H e1=>?_
 cases e1;cases Hr1
 cases H
 exact bP
 revert H;refine B5 fun y2 h2 H=>?_
 rcases y2 with y2 | pv2 <;> dsimp only at H
 refine Tc (aT _ _ h2).s ?_
 refine Z1 ?_
 exact Tm (()) (ij H)
 refine Tp (aT _ _ h2).pan ?_
 revert H;refine B1 fun r2 H e2=>?_
 cases e2;cases Hr1
 cases H
 exact bP
 revert H;refine B11 fun y3 h3 H=>?_
 rcases y3 with y3 | pv3 <;> dsimp only at H
 refine Tc (aT _ _ h3).s ?_
 refine Z1 ?_
 exact Tm (()) (ij H)
 refine Tp (aT _ _ h3).pan ?_
 revert H;refine B1 fun r3 H e3=>?_
 cases e3;cases Hr1
 cases H
 exact bP
 clear H;intro i hi;subst o1;have H:=Hr1;clear Hr1;try dsimp only at H
 try dsimp only
 refine Z1 ?_
 refine cJ (φ:=bG aB (⟨a0.Chans,a0.Spots,a0.Rules⟩:ScopeDef)) (v:=ptr b1) [1] (kG aP.rfl) fz ?_
 refine cI ?_
 refine Yy (o_clo rfl (aL.cons hh aL.nil)) ?_
 revert H;refine B2 fun o2 H Hr2=>?_
 refine aO (ι:=Unit) (fun i=>o2=Sum.inl ()) (fun i=>[(1,bG aB (⟨a0.Chans,a0.Spots,a0.Rules⟩:ScopeDef)),(2,fB 186 [bG aB (⟨a0.Chans,a0.Spots,a0.Rules⟩:ScopeDef)])]) (fun i=>[]) ?_ ?_
 refine Z7 ?_
 refine Tl (ι:=Nat × Int) (fun i=>oH a0 i.1 i.2=_) (fun i=>i.1) (fun i=>[(1,bG aB (⟨a0.Chans,a0.Spots,a0.Rules⟩:ScopeDef)),(2,fB 186 [bG aB (⟨a0.Chans,a0.Spots,a0.Rules⟩:ScopeDef)]),(31,fSl aS ((⟨a0.Chans,a0.Spots,a0.Rules⟩:ScopeDef).Chans)),(32,fI (((⟨a0.Chans,a0.Spots,a0.Rules⟩:ScopeDef).Chans).length:Int)),(33,fI i.2)]) (fun i=>[]) (fuel,0) H ?_
 clear H;rintro⟨k1,x2⟩ H
 replace H:oH a0 k1 x2=_:=H
 try dsimp only
 obtain _ | k1:=k1
 rw [oH]at H;cases H
 rw [oH]at H
 refine Z3 ?_
 refine aI ?_
 revert H;refine is (fun c3 H=>?_) fun c3 H=>?_
 revert H;refine B3 fun o3 H Hr3=>?_
 refine aO (ι:=Unit) (fun i=>o3=Sum.inl ()) (fun i=>[(1,bG aB (⟨a0.Chans,a0.Spots,a0.Rules⟩:ScopeDef)),(2,fB 186 [bG aB (⟨a0.Chans,a0.Spots,a0.Rules⟩:ScopeDef)]),(31,fSl aS ((⟨a0.Chans,a0.Spots,a0.Rules⟩:ScopeDef).Chans)),(32,fI (((⟨a0.Chans,a0.Spots,a0.Rules⟩:ScopeDef).Chans).length:Int)),(33,fI x2)]) (fun i=>[]) ?_ ?_
 revert H;refine B2 fun y4 h4 H=>?_
 refine Z2 ?_
 refine Tn (cV rfl aG7 rfl) fun b2=>?_
 refine dR (φs':=[fI y4.At,fI y4.Many]) trivial rfl rfl (has rfl) (has rfl) (aK (aD trivial) (aK (aD trivial) bY)) (sz rfl) rfl rfl rfl ?_
 revert H;refine B5 fun y5 h5 H=>?_
 rcases y5 with y5 | pv4 <;> dsimp only at H
 refine sT trivial rfl rfl rfl (has rfl) (aL.cons (has rfl) aL.nil) rfl (cb rfl) (aAS y4.At (⟨a0.Chans,a0.Spots,a0.Rules⟩:ScopeDef) (Sum.inl y5) h5).s rfl ?_
 revert H;refine I6 (fun c4 H=>?_) fun c4 H=>?_
 revert H;refine B4 fun y6 h6 H=>?_
 rcases y6 with y6 | pv5 <;> dsimp only at H
 refine Tc (aT _ _ h6).s ?_
 refine Z3 ?_
 refine aH [] (by decide) ?_
 exact Tm (()) (ij H)
 refine Tp (aT _ _ h6).pan ?_
 revert H;refine B2 fun r4 H e4=>?_
 cases e4;cases Hr3
 revert H;refine B3 fun r5 H e5=>?_
 cases e5;cases Hr2
 cases H
 exact bP
 revert H;refine B4 fun y7 h7 H=>?_
 rcases y7 with y7 | pv6 <;> dsimp only at H
 refine Tc (aT _ _ h7).s ?_
 refine Z3 ?_
 refine aH [] (by decide) ?_
 exact Tm (()) (ij H)
 refine Tp (aT _ _ h7).pan ?_
 revert H;refine B2 fun r6 H e6=>?_
 cases e6;cases Hr3
 revert H;refine B3 fun r7 H e7=>?_
 cases e7;cases Hr2
 cases H
 exact bP
 refine aAu trivial rfl (has rfl) (aL.cons (has rfl) aL.nil) rfl (cb rfl) (aAS y4.At (⟨a0.Chans,a0.Spots,a0.Rules⟩:ScopeDef) (Sum.inr pv4) h5).pan rfl ?_
 revert H;refine B3 fun r8 H e8=>?_
 cases e8;cases Hr3
 revert H;refine B3 fun r9 H e9=>?_
 cases e9;cases Hr2
 cases H
 exact bP
 clear H;intro i hi;subst o3;have H:=Hr3;clear Hr3;try dsimp only at H
 try dsimp only
 revert H;refine B1 fun z1 h8 H=>?_
 refine Z3 ?_
 exact Tm ((k1,z1)) ⟨H,ls⟩
 refine Z6 ?_
 exact Tm (()) (ij H)
 clear H;intro i hi;subst o2;have H:=Hr2;clear Hr2;try dsimp only at H
 try dsimp only
 revert H;refine bs fun o4 H Hr4=>?_
 refine aO (ι:=Unit) (fun i=>o4=Sum.inl ()) (fun i=>[(1,bG aB (⟨a0.Chans,a0.Spots,a0.Rules⟩:ScopeDef)),(2,fB 186 [bG aB (⟨a0.Chans,a0.Spots,a0.Rules⟩:ScopeDef)])]) (fun i=>[]) ?_ ?_
 refine Z7 ?_
 refine Tl (ι:=Nat × Int) (fun i=>nM a0 i.1 i.2=_) (fun i=>i.1) (fun i=>[(1,bG aB (⟨a0.Chans,a0.Spots,a0.Rules⟩:ScopeDef)),(2,fB 186 [bG aB (⟨a0.Chans,a0.Spots,a0.Rules⟩:ScopeDef)]),(52,fSl aY ((⟨a0.Chans,a0.Spots,a0.Rules⟩:ScopeDef).Spots)),(53,fI (((⟨a0.Chans,a0.Spots,a0.Rules⟩:ScopeDef).Spots).length:Int)),(54,fI i.2)]) (fun i=>[]) (fuel,0) H ?_
 clear H;rintro⟨k2,x4⟩ H
 replace H:nM a0 k2 x4=_:=H
 try dsimp only
 obtain _ | k2:=k2
 rw [nM]at H;cases H
 rw [nM]at H
 refine Z3 ?_
 refine aI ?_
 revert H;refine is (fun c5 H=>?_) fun c5 H=>?_
 revert H;refine B3 fun o5 H Hr5=>?_
 refine aO (ι:=Unit) (fun i=>o5=Sum.inl ()) (fun i=>[(1,bG aB (⟨a0.Chans,a0.Spots,a0.Rules⟩:ScopeDef)),(2,fB 186 [bG aB (⟨a0.Chans,a0.Spots,a0.Rules⟩:ScopeDef)]),(52,fSl aY ((⟨a0.Chans,a0.Spots,a0.Rules⟩:ScopeDef).Spots)),(53,fI (((⟨a0.Chans,a0.Spots,a0.Rules⟩:ScopeDef).Spots).length:Int)),(54,fI x4)]) (fun i=>[]) ?_ ?_
 revert H;refine B3 fun y8 h9 H=>?_
 refine Z2 ?_
 refine Tn (cV rfl zF rfl) fun b3=>?_
 refine Z1 ?_
 refine dR (φs':=[fI y8.In,fI y8.Node]) trivial rfl rfl (has rfl) (has rfl) (aK (aD trivial) (aK (aD trivial) bY)) (sz rfl) rfl rfl rfl ?_
 revert H;refine I6 (fun c6 H=>?_) fun c6 H=>?_
 revert H;refine B5 fun y9 h10 H=>?_
 rcases y9 with y9 | pv7 <;> dsimp only at H
 refine Tc (aT _ _ h10).s ?_
 refine Z3 ?_
 refine aH [] (by decide) ?_
 exact Tm (()) (ij H)
 refine Tp (aT _ _ h10).pan ?_
 revert H;refine B2 fun r10 H e10=>?_
 cases e10;cases Hr5
 revert H;refine B3 fun r11 H e11=>?_
 cases e11;cases Hr4
 cases H
 exact bP
 revert H;refine B5 fun y10 h11 H=>?_
 rcases y10 with y10 | pv8 <;> dsimp only at H
 refine Tc (aT _ _ h11).s ?_
 refine Z3 ?_
 refine aH [] (by decide) ?_
 exact Tm (()) (ij H)
 refine Tp (aT _ _ h11).pan ?_
 revert H;refine B2 fun r12 H e12=>?_
 cases e12;cases Hr5
 revert H;refine B3 fun r13 H e13=>?_
 cases e13;cases Hr4
 cases H
 exact bP
 clear H;intro i hi;subst o5;have H:=Hr5;clear Hr5;try dsimp only at H
 try dsimp only
 revert H;refine B1 fun z2 h12 H=>?_
 refine Z3 ?_
 exact Tm ((k2,z2)) ⟨H,ls⟩
 refine Z6 ?_
 exact Tm (()) (ij H)
 clear H;intro i hi;subst o4;have H:=Hr4;clear Hr4;try dsimp only at H
 try dsimp only
 refine Z1 ?_
 refine Tn (aBN (fun y=>aJ y) eJ rfl) fun b4=>?_
 revert H;refine B2 fun o6 H Hr6=>?_
 refine aO (ι:=aN Int Bool) (fun i=>o6=Sum.inl i) (fun i=>[(1,bG aB (⟨a0.Chans,a0.Spots,a0.Rules⟩:ScopeDef)),(7,fEq (.map (some b4)))]) (fun i=>[dY eJ (fun y=>aJ y) b4 i]) ?_ ?_
 refine Z7 ?_
 refine Tl (ι:=Nat × Int × aN Int Bool) (fun i=>mN fuel a0 i.1 i.2.1 i.2.2=_) (fun i=>i.1) (fun i=>[(1,bG aB (⟨a0.Chans,a0.Spots,a0.Rules⟩:ScopeDef)),(2,fB 186 [bG aB (⟨a0.Chans,a0.Spots,a0.Rules⟩:ScopeDef)]),(7,fEq (.map (some b4))),(72,fSl aZ ((⟨a0.Chans,a0.Spots,a0.Rules⟩:ScopeDef).Rules)),(73,fI (((⟨a0.Chans,a0.Spots,a0.Rules⟩:ScopeDef).Rules).length:Int)),(74,fI i.2.1)]) (fun i=>[dY eJ (fun y=>aJ y) b4 i.2.2]) (fuel,0,(aN.none:aN Int Bool)) H ?_
 clear H;rintro⟨k3,x8,x9⟩ H
 replace H:mN fuel a0 k3 x8 x9=_:=H
 try dsimp only
 obtain _ | k3:=k3
 rw [mN]at H;cases H
 rw [mN]at H
 refine Z3 ?_
 refine aI ?_
 revert H;refine is (fun c7 H=>?_) fun c7 H=>?_
 revert H;refine B3 fun o7 H Hr7=>?_
 refine aO (ι:=aN Int Bool) (fun i=>o7=Sum.inl i) (fun i=>[(1,bG aB (⟨a0.Chans,a0.Spots,a0.Rules⟩:ScopeDef)),(2,fB 186 [bG aB (⟨a0.Chans,a0.Spots,a0.Rules⟩:ScopeDef)]),(7,fEq (.map (some b4))),(72,fSl aZ ((⟨a0.Chans,a0.Spots,a0.Rules⟩:ScopeDef).Rules)),(73,fI (((⟨a0.Chans,a0.Spots,a0.Rules⟩:ScopeDef).Rules).length:Int)),(74,fI x8)]) (fun i=>[dY eJ (fun y=>aJ y) b4 i]) ?_ ?_
 revert H;refine B2 fun y11 h13 H=>?_
 refine Z2 ?_
 refine Tn (cV rfl pY rfl) fun b5=>?_
 refine dR (φs':=[fI y11.At,fSl tI y11.Joins,fI y11.Node]) trivial rfl rfl (has rfl) (has rfl) (aK (aD trivial) (aK (bU) (aK (aD trivial) bY))) (sz rfl) rfl rfl rfl ?_
 revert H;refine B5 fun y12 h14 H=>?_
 rcases y12 with y12 | pv9 <;> dsimp only at H
 refine sT trivial rfl rfl rfl (has rfl) (aL.cons (has rfl) aL.nil) rfl (cb rfl) (aAS y11.At (⟨a0.Chans,a0.Spots,a0.Rules⟩:ScopeDef) (Sum.inl y12) h14).s rfl ?_
 revert H;refine B1 fun o8 H Hr8=>?_
 refine aO (ι:=Unit) (fun i=>o8=Sum.inl ()) (fun i=>[(1,bG aB (⟨a0.Chans,a0.Spots,a0.Rules⟩:ScopeDef)),(2,fB 186 [bG aB (⟨a0.Chans,a0.Spots,a0.Rules⟩:ScopeDef)]),(7,fEq (.map (some b4))),(72,fSl aZ ((⟨a0.Chans,a0.Spots,a0.Rules⟩:ScopeDef).Rules)),(73,fI (((⟨a0.Chans,a0.Spots,a0.Rules⟩:ScopeDef).Rules).length:Int)),(74,fI x8),(9,fEq (ptr b5))]) (fun i=>[aA b5 114 [fI y11.At,fSl tI y11.Joins,fI y11.Node],dY eJ (fun y=>aJ y) b4 x9]) ?_ ?_
 revert H;refine I6 (fun c8 H=>?_) fun c8 H=>?_
 revert H;refine B5 fun y13 h15 H=>?_
 rcases y13 with y13 | pv10 <;> dsimp only at H
 refine Tc (aT _ _ h15).s ?_
 refine Z1 ?_
 exact Tm (()) (ij H)
 refine Tp (aT _ _ h15).pan ?_
 revert H;refine B1 fun r14 H e14=>?_
 cases e14;cases Hr8
 revert H;refine B2 fun r15 H e15=>?_
 cases e15;cases Hr7
 revert H;refine B3 fun r16 H e16=>?_
 cases e16;cases Hr6
 cases H
 exact bP
 revert H;refine B5 fun y14 h16 H=>?_
 rcases y14 with y14 | pv11 <;> dsimp only at H
 refine Tc (aT _ _ h16).s ?_
 refine Z1 ?_
 exact Tm (()) (ij H)
 refine Tp (aT _ _ h16).pan ?_
 revert H;refine B1 fun r17 H e17=>?_
 cases e17;cases Hr8
 revert H;refine B2 fun r18 H e18=>?_
 cases e18;cases Hr7
 revert H;refine B3 fun r19 H e19=>?_
 cases e19;cases Hr6
 cases H
 exact bP
 clear H;intro i hi;subst o8;have H:=Hr8;clear Hr8;try dsimp only at H
 try dsimp only
 refine Z7 ?_
 refine Tl (ι:=Nat × Int × aN Int Bool) (fun i=>jK fuel a0 y11 i.1 i.2.1 i.2.2=_) (fun i=>i.1) (fun i=>[(1,bG aB (⟨a0.Chans,a0.Spots,a0.Rules⟩:ScopeDef)),(2,fB 186 [bG aB (⟨a0.Chans,a0.Spots,a0.Rules⟩:ScopeDef)]),(7,fEq (.map (some b4))),(72,fSl aZ ((⟨a0.Chans,a0.Spots,a0.Rules⟩:ScopeDef).Rules)),(73,fI (((⟨a0.Chans,a0.Spots,a0.Rules⟩:ScopeDef).Rules).length:Int)),(74,fI x8),(9,fEq (ptr b5)),(94,fSl tI y11.Joins),(95,fI (y11.Joins.length:Int)),(96,fI i.2.1)]) (fun i=>[aA b5 114 [fI y11.At,fSl tI y11.Joins,fI y11.Node],dY eJ (fun y=>aJ y) b4 i.2.2]) (fuel,0,x9) H ?_
 clear H;rintro⟨k4,x13,x14⟩ H
 replace H:jK fuel a0 y11 k4 x13 x14=_:=H
 try dsimp only
 obtain _ | k4:=k4
 rw [jK]at H;cases H
 rw [jK]at H
 refine Z3 ?_
 refine aI ?_
 revert H;refine is (fun c9 H=>?_) fun c9 H=>?_
 refine Z3 ?_
 refine aI ?_
 revert H;refine B3 fun y15 h17 H=>?_
 revert H;refine B5 fun o9 H Hr9=>?_
 refine aO (ι:=Unit) (fun i=>o9=Sum.inl ()) (fun i=>[(1,bG aB (⟨a0.Chans,a0.Spots,a0.Rules⟩:ScopeDef)),(2,fB 186 [bG aB (⟨a0.Chans,a0.Spots,a0.Rules⟩:ScopeDef)]),(7,fEq (.map (some b4))),(72,fSl aZ ((⟨a0.Chans,a0.Spots,a0.Rules⟩:ScopeDef).Rules)),(73,fI (((⟨a0.Chans,a0.Spots,a0.Rules⟩:ScopeDef).Rules).length:Int)),(74,fI x8),(9,fEq (ptr b5)),(94,fSl tI y11.Joins),(95,fI (y11.Joins.length:Int)),(96,fI x13),(11,fI y15)]) (fun i=>[aA b5 114 [fI y11.At,fSl tI y11.Joins,fI y11.Node],dY eJ (fun y=>aJ y) b4 x14]) ?_ ?_
 revert H;refine is (fun c10 H=>?_) fun c10 H=>?_
 revert H;refine is (fun c11 H=>?_) fun c11 H=>?_
 revert H;refine bs fun y16 h18 H=>?_
 revert H;refine is (fun c12 H=>?_) fun c12 H=>?_
 revert H;refine bs fun y17 h19 H=>?_
 revert H;refine bs fun y18 h20 H=>?_
 apply bE (ods:=[_,_,_,_,_,_,_,_,_,_,_,_,_,_,_,_,_,_,_,_,_,_,_,_,_,_,_,_,_]) 29 0 2 bD rfl rfl rfl
 refine ND ?_
 refine M8 ?_
 intros
 refine M8 ?_
 intros
 refine M8 ?_
 intros
 refine Mg c12 (o_slice (t:=tI) rfl hh aHO (aGp hh) (el rfl) h19) fun _=>?_
 refine M1 ?_
 intros
 refine Nc (aHb _ _ _ _ h20) fun _=>?_
 refine M2 ?_
 intros
 revert H;refine B1 fun y19 h21 H=>?_
 rcases y19 with y19 | pv12 <;> dsimp only at H
 refine Tc (aT _ _ h21).s ?_
 refine Z1 ?_
 exact Tm (()) (ij H)
 refine Tp (aT _ _ h21).pan ?_
 revert H;refine B1 fun r20 H e20=>?_
 cases e20;cases Hr9
 revert H;refine B6 fun r21 H e21=>?_
 cases e21;cases Hr7
 revert H;refine B3 fun r22 H e22=>?_
 cases e22;cases Hr6
 cases H
 exact bP
 exact fk
 kernel_rfl
 apply bE (ods:=[_,_,_,_,_,_,_,_,_,_,_,_,_,_,_,_,_,_,_,_,_,_,_,_,_,_,_,_,_]) 29 0 2 bD rfl rfl rfl
 refine ND ?_
 refine M8 ?_
 intros
 refine M8 ?_
 intros
 refine M8 ?_
 intros
 refine M5 ?_
 intros
 revert H;refine B1 fun y20 h22 H=>?_
 rcases y20 with y20 | pv13 <;> dsimp only at H
 refine Tc (aT _ _ h22).s ?_
 refine Z1 ?_
 exact Tm (()) (ij H)
 refine Tp (aT _ _ h22).pan ?_
 revert H;refine B1 fun r23 H e23=>?_
 cases e23;cases Hr9
 revert H;refine B6 fun r24 H e24=>?_
 cases e24;cases Hr7
 revert H;refine B3 fun r25 H e25=>?_
 cases e25;cases Hr6
 cases H
 exact bP
 exact fk
 kernel_rfl
 apply bE (ods:=[_,_,_,_,_,_,_,_,_,_,_,_,_,_,_,_,_,_,_,_,_,_,_,_,_,_,_,_,_]) 29 0 2 bD rfl rfl rfl
 refine ND ?_
 refine M8 ?_
 intros
 refine M8 ?_
 intros
 refine M8 ?_
 intros
 refine M5 ?_
 intros
 revert H;refine B1 fun y21 h23 H=>?_
 rcases y21 with y21 | pv14 <;> dsimp only at H
 refine Tc (aT _ _ h23).s ?_
 refine Z1 ?_
 exact Tm (()) (ij H)
 refine Tp (aT _ _ h23).pan ?_
 revert H;refine B1 fun r26 H e26=>?_
 cases e26;cases Hr9
 revert H;refine B6 fun r27 H e27=>?_
 cases e27;cases Hr7
 revert H;refine B3 fun r28 H e28=>?_
 cases e28;cases Hr6
 cases H
 exact bP
 exact fk
 kernel_rfl
 apply bE (ods:=[_,_,_,_,_,_,_,_,_,_,_,_,_,_,_,_,_,_,_,_,_,_,_,_,_,_,_,_,_]) 29 0 2 bD rfl rfl rfl
 refine ND ?_
 refine M8 ?_
 intros
 refine M8 ?_
 intros
 refine M8 ?_
 intros
 refine M5 ?_
 intros
 revert H;refine B1 fun y22 h24 H=>?_
 rcases y22 with y22 | pv15 <;> dsimp only at H
 refine Tc (aT _ _ h24).s ?_
 refine Z1 ?_
 exact Tm (()) (ij H)
 refine Tp (aT _ _ h24).pan ?_
 revert H;refine B1 fun r29 H e29=>?_
 cases e29;cases Hr9
 revert H;refine B6 fun r30 H e30=>?_
 cases e30;cases Hr7
 revert H;refine B3 fun r31 H e31=>?_
 cases e31;cases Hr6
 cases H
 exact bP
 exact fk
 kernel_rfl
 clear H;intro i hi;subst o9;have H:=Hr9;clear Hr9;try dsimp only at H
 try dsimp only
 refine Z3 ?_
 refine bZ ?_
 refine jO (k:=y15) (y:=true) trivial (.inl rfl) rfl (has rfl) (has rfl) rfl (has rfl) rfl aDz ?_
 revert H;refine B4 fun z3 h25 H=>?_
 refine Z3 ?_
 refine aH [1,0] (by decide) ?_
 exact Tm ((k4,z3,aN.upd x14 y15 true)) ⟨H,ls⟩
 refine Z7 ?_
 refine aH [1] (by decide) ?_
 exact Tm (x14) (ij H)
 refine aAu trivial rfl (has rfl) (aL.cons (has rfl) aL.nil) rfl (cb rfl) (aAS y11.At (⟨a0.Chans,a0.Spots,a0.Rules⟩:ScopeDef) (Sum.inr pv9) h14).pan rfl ?_
 revert H;refine B3 fun r32 H e32=>?_
 cases e32;cases Hr7
 revert H;refine B3 fun r33 H e33=>?_
 cases e33;cases Hr6
 cases H
 exact bP
 clear H;intro x10 hi;subst o7;have H:=Hr7;clear Hr7;try dsimp only at H
 try dsimp only
 revert H;refine B1 fun z4 h26 H=>?_
 refine Z3 ?_
 exact Tm ((k3,z4,x10)) ⟨H,ls⟩
 refine Z6 ?_
 exact Tm (x9) (ij H)
 clear H;intro x5 hi;subst o6;have H:=Hr6;clear Hr6;try dsimp only at H
 try dsimp only
 refine Z2 ?_
 refine Yo 0 rfl (o_lenMO rfl hh aDz) ?_
 revert H;refine B4 fun y23 h27 H=>?_
 rcases y23 with y23 | pv16 <;> dsimp only at H
 refine Tc (aT _ _ h27).s ?_
 refine Z1 ?_
 cases H
 refine qP ?_
 refine aH [] (by decide) ?_
 exact dC (.inr rfl) rfl rfl
 refine Tp (aT _ _ h27).pan ?_
 cases H
 exact bP
def uR (a0:ScopeDef):Option (Int):=
 (chk ((a0.Chans.length:Int)+(a0.Spots.length:Int))).bind fun z1=>
 some z1
theorem aHI  (a0:ScopeDef) (r:Int) (H:uR a0=some r):FnS Tryz.prog 177 [fSt aB a0] [] (fI r) (fun _=>[]):=by
 unfold uR at H
 refine bS Tryz.func177 rfl Tryz.ntmps177 rfl (fun β=>?_)
 refine Z1 ?_
 refine Tn (cO rfl hh bW) fun b1=>?_
 revert H;refine B9 fun z1 h1 H=>?_
 refine Z4 ?_
 cases H
 refine aH [] (by decide) ?_
 exact To
def oF (a0:ScopeDef) (a1:ScopeRule):Nat → Int → Int → Option (Int)
| 0,_,_=>none
| k+1,x4,x5=>
 if x5<(a1.Joins.length:Int)then
  (idx a1.Joins x5).bind fun y1=>
  (idx a0.Chans y1).bind fun y2=>
  (chk (x4+y2.Many)).bind fun z1=>
  (chk (x5+1)).bind fun z2=>
  oF a0 a1 k z1 z2
 else
  some x4
def xJ (fuel:Nat) (a0:ScopeDef) (a1:ScopeRule):Option (Int):=
 (oF a0 a1 fuel 0 0).bind fun x1=>
 some x1
theorem aGN (fuel:Nat)  (a0:ScopeDef) (a1:ScopeRule) (r:Int) (H:xJ fuel a0 a1=some r):FnS Tryz.prog 178 [fSt aB a0,fSt aZ a1] [] (fI r) (fun _=>[]):=by
 unfold xJ at H
 refine bS Tryz.func178 rfl Tryz.ntmps178 rfl (fun β=>?_)
 refine Z1 ?_
 refine Tn (cO rfl hh bW) fun b1=>?_
 refine Tn (cO rfl hh bW) fun b2=>?_
 revert H;refine B5 fun o1 H Hr1=>?_
 refine aO (ι:=Int) (fun i=>o1=i) (fun i=>[(5,fI i)]) (fun i=>[aA b2 114 [fI a1.At,fSl tI a1.Joins,fI a1.Node],aA b1 63 [fSl aS a0.Chans,fSl aY a0.Spots,fSl aZ a0.Rules]]) ?_ ?_
 refine Z7 ?_
 refine Tl (ι:=Nat × Int × Int) (fun i=>oF a0 a1 i.1 i.2.1 i.2.2=_) (fun i=>i.1) (fun i=>[(2,fEq (ptr b1)),(5,fI i.2.1),(9,fSl tI a1.Joins),(10,fI (a1.Joins.length:Int)),(11,fI i.2.2)]) (fun i=>[aA b2 114 [fI a1.At,fSl tI a1.Joins,fI a1.Node],aA b1 63 [fSl aS a0.Chans,fSl aY a0.Spots,fSl aZ a0.Rules]]) (fuel,0,0) H ?_
 clear H;rintro⟨k1,x4,x5⟩ H
 replace H:oF a0 a1 k1 x4 x5=_:=H
 try dsimp only
 obtain _ | k1:=k1
 rw [oF]at H;cases H
 rw [oF]at H
 refine Z3 ?_
 refine aI ?_
 revert H;refine is (fun c1 H=>?_) fun c1 H=>?_
 refine Z3 ?_
 refine aI ?_
 revert H;refine B2 fun y1 h1 H=>?_
 revert H;refine B9 fun y2 h2 H=>?_
 revert H;refine B3 fun z1 h3 H=>?_
 revert H;refine B6 fun z2 h4 H=>?_
 refine Z3 ?_
 exact Tm ((k1,z1,z2)) ⟨H,ls⟩
 refine Z6 ?_
 exact Tm (x4) (ij H)
 clear H;intro x1 hi;subst o1;have H:=Hr1;clear Hr1;try dsimp only at H
 try dsimp only
 refine Z5 ?_
 cases H
 refine aH [] (by decide) ?_
 exact To
open Go.SX Go.SW Go.Dt
def aBH (a0:Scope_speaks):Option (Int):=
 some 0
theorem aHL  (a0:Scope_speaks) (r:Int) (H:aBH a0=some r):FnS Tryz.prog 206 [fSt aHr a0] [] (fI r) (fun _=>[]):=by
 unfold aBH at H
 refine bS Tryz.func206 rfl Tryz.ntmps206 rfl (fun β=>?_)
 refine Z1 ?_
 refine Tn (cO rfl hh bW) fun b1=>?_
 refine Z6 ?_
 cases H
 refine aH [] (by decide) ?_
 exact To
def aBB (a0:Scope_travels):Option (Int):=
 some 1
theorem aHX  (a0:Scope_travels) (r:Int) (H:aBB a0=some r):FnS Tryz.prog 207 [fSt aIb a0] [] (fI r) (fun _=>[]):=by
 unfold aBB at H
 refine bS Tryz.func207 rfl Tryz.ntmps207 rfl (fun β=>?_)
 refine Z1 ?_
 refine Tn (cO rfl hh bW) fun b1=>?_
 refine Z6 ?_
 cases H
 refine aH [] (by decide) ?_
 exact To
def aCr (a0:Scope_declares):Option (Int):=
 some 1
theorem aGM  (a0:Scope_declares) (r:Int) (H:aCr a0=some r):FnS Tryz.prog 208 [fSt aHJ a0] [] (fI r) (fun _=>[]):=by
 unfold aCr at H
 refine bS Tryz.func208 rfl Tryz.ntmps208 rfl (fun β=>?_)
 refine Z1 ?_
 refine Tn (cO rfl hh bW) fun b1=>?_
 refine Z6 ?_
 cases H
 refine aH [] (by decide) ?_
 exact To
def aBb (a0:Scope_decides):Option (Int):=
 some 2
theorem aGd  (a0:Scope_decides) (r:Int) (H:aBb a0=some r):FnS Tryz.prog 209 [fSt aGt a0] [] (fI r) (fun _=>[]):=by
 unfold aBb at H
 refine bS Tryz.func209 rfl Tryz.ntmps209 rfl (fun β=>?_)
 refine Z1 ?_
 refine Tn (cO rfl hh bW) fun b1=>?_
 refine Z6 ?_
 cases H
 refine aH [] (by decide) ?_
 exact To
def aBx (a0:Int):Option (Int):=
 some a0
theorem aGs  (a0:Int) (r:Int) (H:aBx a0=some r):FnS Tryz.prog 210 [fI a0] [] (fI r) (fun _=>[]):=by
 unfold aBx at H
 refine bS Tryz.func210 rfl Tryz.ntmps210 rfl (fun β=>?_)
 refine Z8 ?_
 cases H
 exact To
def lI:Value → Option Int
 | .iface 259 (.agg ⟨[]⟩)=>aBH ⟨⟩
 | .iface 260 (.agg ⟨[]⟩)=>aBB ⟨⟩
 | .iface 261 (.agg ⟨[]⟩)=>aCr ⟨⟩
 | .iface 262 (.agg ⟨[]⟩)=>aBb ⟨⟩
 | .iface 271 (.int .i64 n)=>aBx n
 | _=>none
theorem aF8 (v:Value) (r:Int) (H:lI v=some r):Inv Tryz.prog v "cabotage/scope.kids" [] (fI r):=by
 unfold lI at H
 split at H
 exact⟨_,_,206,rfl,fun w=>by kernel_rfl,(cb rfl),(aHL ⟨⟩ r H).args (aP.cons (vC []) aP.nil)⟩
 exact⟨_,_,207,rfl,fun w=>by kernel_rfl,(cb rfl),(aHX ⟨⟩ r H).args (aP.cons (vC []) aP.nil)⟩
 exact⟨_,_,208,rfl,fun w=>by kernel_rfl,(cb rfl),(aGM ⟨⟩ r H).args (aP.cons (vC []) aP.nil)⟩
 exact⟨_,_,209,rfl,fun w=>by kernel_rfl,(cb rfl),(aGd ⟨⟩ r H).args (aP.cons (vC []) aP.nil)⟩
 rename_i n;exact⟨_,_,210,rfl,fun w=>by kernel_rfl,(cb rfl),(aGs n r H).args aP.rfl⟩
 cases H
def lT (fuel:Nat) (a2:Int) (y7:ScopeNode):Nat → Int → Option ((Unit) ⊕ (Scope_looker ⊕ Value))
| 0,_=>none
| k+1,x8=>
 if x8<(y7.Args.length:Int)then
  (idx y7.Args x8).bind fun y27=>
  (xK fuel (⟨y27.Op,y27.N,y27.Kids⟩:ScopeExp) a2).bind fun y28=>
  match y28 with
  | Sum.inr pv16=>(some (Sum.inr pv16)).bind fun r=>some (Sum.inr r)
  | Sum.inl y28=>
  (chk (x8+1)).bind fun z1=>
  lT fuel a2 y7 k z1
 else
  some (Sum.inl ())
def mA (fuel:Nat) (rec_scope_looker_node:Scope_looker → Int → Int → Option (Scope_looker ⊕ Value)) (y30:ScopeDef) (z2:Int):Nat → Int → (List ByteArray) → (List ScopeNode) → (List ScopeDef) → Int → (List Int) → (List Bool) → (List Bool) → Option ((List ByteArray × List ScopeNode × List ScopeDef × Int × List Int × List Bool × List Bool) ⊕ ((Int × List ByteArray × List ScopeNode × List ScopeDef × Int × List Int × List Bool × List Bool) ⊕ (Scope_looker ⊕ Value)))
| 0,_,_,_,_,_,_,_,_=>none
| k+1,x32,x33,x34,x35,x36,x37,x38,x39=>
 if x32<(y30.Rules.length:Int)then
  (idx y30.Rules x32).bind fun y33=>
  (xJ fuel (⟨y30.Chans,y30.Spots,y30.Rules⟩:ScopeDef) (⟨y33.At,y33.Joins,y33.Node⟩:ScopeRule)).bind fun y34=>
  (chk (z2+y34)).bind fun z3=>
  (rec_scope_looker_node (⟨(⟨x33,x34,x35,x36⟩:ScopeProg),x37,x38,x39⟩:Scope_looker) y33.Node z3).bind fun y35=>
  match y35 with
  | Sum.inr pv18=>((some (Sum.inr pv18)).bind fun r=>some (Sum.inr r)).bind fun r=>some (Sum.inr r)
  | Sum.inl y35=>
  (chk (x32+1)).bind fun z4=>
  mA fuel rec_scope_looker_node y30 z2 k z4 y35.p.Free y35.p.Nodes y35.p.Defs y35.p.Main y35.sizes y35.met y35.defs
 else
  some (Sum.inl (x33,x34,x35,x36,x37,x38,x39))
def mB (rec_scope_looker_node:Scope_looker → Int → Int → Option (Scope_looker ⊕ Value)) (y30:ScopeDef) (z2:Int):Nat → Int → (List ByteArray) → (List ScopeNode) → (List ScopeDef) → Int → (List Int) → (List Bool) → (List Bool) → Option ((Int × List ByteArray × List ScopeNode × List ScopeDef × Int × List Int × List Bool × List Bool) ⊕ (Scope_looker ⊕ Value))
| 0,_,_,_,_,_,_,_,_=>none
| k+1,x48,x49,x50,x51,x52,x53,x54,x55=>
 if x48<(y30.Spots.length:Int)then
  (idx y30.Spots x48).bind fun y36=>
  (rec_scope_looker_node (⟨(⟨x49,x50,x51,x52⟩:ScopeProg),x53,x54,x55⟩:Scope_looker) y36.Node z2).bind fun y37=>
  match y37 with
  | Sum.inr pv19=>(some (Sum.inr pv19)).bind fun r=>some (Sum.inr r)
  | Sum.inl y37=>
  (chk (x48+1)).bind fun z5=>
  mB rec_scope_looker_node y30 z2 k z5 y37.p.Free y37.p.Nodes y37.p.Defs y37.p.Main y37.sizes y37.met y37.defs
 else
  some (Sum.inl (z2,x49,x50,x51,x52,x53,x54,x55))
def mM (rec_scope_looker_node:Scope_looker → Int → Int → Option (Scope_looker ⊕ Value)) (y7:ScopeNode) (x9:Int):Nat → Int → (List ByteArray) → (List ScopeNode) → (List ScopeDef) → Int → (List Int) → (List Bool) → (List Bool) → Option (Scope_looker ⊕ Value)
| 0,_,_,_,_,_,_,_,_=>none
| k+1,x64,x65,x66,x67,x68,x69,x70,x71=>
 if x64<(y7.Kids.length:Int)then
  (idx y7.Kids x64).bind fun y38=>
  (rec_scope_looker_node (⟨(⟨x65,x66,x67,x68⟩:ScopeProg),x69,x70,x71⟩:Scope_looker) y38 x9).bind fun y39=>
  match y39 with
  | Sum.inr pv20=>some (Sum.inr pv20)
  | Sum.inl y39=>
  (chk (x64+1)).bind fun z6=>
  mM rec_scope_looker_node y7 x9 k z6 y39.p.Free y39.p.Nodes y39.p.Defs y39.p.Main y39.sizes y39.met y39.defs
 else
  some (Sum.inl (⟨(⟨x65,x66,x67,x68⟩:ScopeProg),x69,x70,x71⟩:Scope_looker))
def fC:Nat → Scope_looker → Int → Int → Option (Scope_looker ⊕ Value)
| 0,_,_,_=>none
| fuel+1,a0,a1,a2=>
 (if 0 ≤ a1 then
  if a1<(a0.p.Nodes.length:Int)then
   (idx a0.met a1).bind fun y1=>
   (bM (!y1)).bind fun y2=>
   match y2 with
   | Sum.inr pv1=>(some (Sum.inr pv1)).bind fun r=>some (Sum.inr r)
   | Sum.inl y2=>
   some (Sum.inl ())
  else
   (bM false).bind fun y3=>
   match y3 with
   | Sum.inr pv2=>(some (Sum.inr pv2)).bind fun r=>some (Sum.inr r)
   | Sum.inl y3=>
   some (Sum.inl ())
 else
  (bM false).bind fun y4=>
  match y4 with
  | Sum.inr pv3=>(some (Sum.inr pv3)).bind fun r=>some (Sum.inr r)
  | Sum.inl y4=>
  some (Sum.inl ())).bind fun o=>match o with
 | Sum.inr r=>some r
 | Sum.inl _=>
 (idx a0.met a1).bind fun y5=>
 (idx a0.sizes a1).bind fun y6=>
 (idx a0.p.Nodes a1).bind fun y7=>
 (jI y7.Op).bind fun y8=>
 ((iN y8).bind fun x1=>
 bif !x1 then
  (lI y8).bind fun y9=>
  (bM (decide ((y7.Kids.length:Int)=y9))).bind fun y10=>
  match y10 with
  | Sum.inr pv4=>(some (Sum.inr pv4)).bind fun r=>some (Sum.inr r)
  | Sum.inl y10=>
  some (Sum.inl ())
 else
  (bM false).bind fun y11=>
  match y11 with
  | Sum.inr pv5=>(some (Sum.inr pv5)).bind fun r=>some (Sum.inr r)
  | Sum.inl y11=>
  some (Sum.inl ())).bind fun o=>match o with
 | Sum.inr r=>some r
 | Sum.inl _=>
 ((eR 259 (.agg #[]) y8).bind fun y12=>
 match y12 with
 | (u1,x3)=>
 bif x3 then
  if 0 ≤ y7.N then
   (bM (decide (y7.N<a2))).bind fun y13=>
   match y13 with
   | Sum.inr pv6=>(some (Sum.inr pv6)).bind fun r=>some (Sum.inr r)
   | Sum.inl y13=>
   some (Sum.inl (min (y7.Args.length:Int) 3))
  else
   (bM false).bind fun y14=>
   match y14 with
   | Sum.inr pv7=>(some (Sum.inr pv7)).bind fun r=>some (Sum.inr r)
   | Sum.inl y14=>
   some (Sum.inl (min (y7.Args.length:Int) 3))
 else
  (eR 260 (.agg #[]) y8).bind fun y15=>
  match y15 with
  | (u2,x4)=>
  bif x4 then
   if 0 ≤ y7.N then
    (bM (decide (y7.N<a2))).bind fun y16=>
    match y16 with
    | Sum.inr pv8=>(some (Sum.inr pv8)).bind fun r=>some (Sum.inr r)
    | Sum.inl y16=>
    some (Sum.inl 0)
   else
    (bM false).bind fun y17=>
    match y17 with
    | Sum.inr pv9=>(some (Sum.inr pv9)).bind fun r=>some (Sum.inr r)
    | Sum.inl y17=>
    some (Sum.inl 0)
  else
   (eR 261 (.agg #[]) y8).bind fun y18=>
   match y18 with
   | (u3,x5)=>
   bif x5 then
    if 0 ≤ y7.N then
     if y7.N<(a0.p.Defs.length:Int)then
      (idx a0.defs y7.N).bind fun y19=>
      (bM (!y19)).bind fun y20=>
      match y20 with
      | Sum.inr pv10=>(some (Sum.inr pv10)).bind fun r=>some (Sum.inr r)
      | Sum.inl y20=>
      some (Sum.inl 0)
     else
      (bM false).bind fun y21=>
      match y21 with
      | Sum.inr pv11=>(some (Sum.inr pv11)).bind fun r=>some (Sum.inr r)
      | Sum.inl y21=>
      some (Sum.inl 0)
    else
     (bM false).bind fun y22=>
     match y22 with
     | Sum.inr pv12=>(some (Sum.inr pv12)).bind fun r=>some (Sum.inr r)
     | Sum.inl y22=>
     some (Sum.inl 0)
   else
    (eR 262 (.agg #[]) y8).bind fun y23=>
    match y23 with
    | (u4,x6)=>
    bif x6 then
     (bM (decide (y7.N=0))).bind fun y24=>
     match y24 with
     | Sum.inr pv13=>(some (Sum.inr pv13)).bind fun r=>some (Sum.inr r)
     | Sum.inl y24=>
     some (Sum.inl 1)
    else
     (bM (decide (y7.N=0))).bind fun y25=>
     match y25 with
     | Sum.inr pv14=>(some (Sum.inr pv14)).bind fun r=>some (Sum.inr r)
     | Sum.inl y25=>
     some (Sum.inl 0)).bind fun o=>match o with
 | Sum.inr r=>some r
 | Sum.inl x2=>
 (bM (decide ((y7.Args.length:Int)=x2))).bind fun y26=>
 match y26 with
 | Sum.inr pv15=>some (Sum.inr pv15)
 | Sum.inl y26=>
 (lT fuel a2 y7 fuel 0).bind fun o=>match o with
 | Sum.inr r=>some r
 | Sum.inl _=>
 (if y7.Op=4 then
  (idx a0.defs y7.N).bind fun y29=>
  (idx a0.p.Defs y7.N).bind fun y30=>
  (tJ fuel (⟨y30.Chans,y30.Spots,y30.Rules⟩:ScopeDef)).bind fun y31=>
  match y31 with
  | Sum.inr pv17=>(some (Sum.inr pv17)).bind fun r=>some (Sum.inr r)
  | Sum.inl y31=>
  (uR (⟨y30.Chans,y30.Spots,y30.Rules⟩:ScopeDef)).bind fun y32=>
  (chk (a2+y32)).bind fun z2=>
  (mA fuel (fC fuel) y30 z2 fuel 0 a0.p.Free a0.p.Nodes a0.p.Defs a0.p.Main (a0.sizes.set a1.toNat a2) (a0.met.set a1.toNat true) (a0.defs.set y7.N.toNat true)).bind fun o=>match o with
  | Sum.inr r=>some r
  | Sum.inl (x17,x18,x19,x20,x21,x22,x23)=>
  mB (fC fuel) y30 z2 fuel 0 x17 x18 x19 x20 x21 x22 x23
 else
  some (Sum.inl (a2,a0.p.Free,a0.p.Nodes,a0.p.Defs,a0.p.Main,a0.sizes.set a1.toNat a2,a0.met.set a1.toNat true,a0.defs))).bind fun o=>match o with
 | Sum.inr r=>some r
 | Sum.inl (x9,x10,x11,x12,x13,x14,x15,x16)=>
 mM (fC fuel) y7 x9 fuel 0 x10 x11 x12 x13 x14 x15 x16
theorem aC1:∀ (fuel:Nat),(∀ (p0:Nat) (a0:Scope_looker) (a1:Int) (a2:Int) (r:Scope_looker ⊕ Value) (H:fC fuel a0 a1 a2=some r),FnE Tryz.prog 161 [fEq (.pointer (some ⟨p0,0,none⟩)),fI a1,fI a2] [aAP p0 a0] r (fun r=>dG []) (fun r=>[aAP p0 r])):=by
 intro fuel
 induction fuel with
 | zero=>exact fun p0 a0 a1 a2 r H=>(by rw [fC]at H;cases H)
 | succ fuel ih=>
 have ih_scope_looker_node:=@ih
 refine ?_
 intro p0 a0 a1 a2 r H
 rw [fC]at H
 refine rK Tryz.func161 rfl Tryz.ntmps161 rfl (fun β=>?_)
 refine vS (fun v1 v2 v3=>?_)
 refine aF 1 rfl (fun hc_v1=>?_)
 refine aF 2 rfl (fun hc_v2=>?_)
 refine aF 3 rfl (fun hc_v3=>?_)
 revert H;refine bs fun o1 H Hr1=>?_
 refine aO (ι:=Unit) (fun i=>o1=Sum.inl ()) (fun i=>[(0,fEq (ptr p0)),(1,fI a1),(2,fI a2)]) (fun i=>[aA p0 174 [fSl aE a0.p.Free,fSl aG a0.p.Nodes,fSl aB a0.p.Defs,fI a0.p.Main,fEq v1,fEq v2,fEq v3],aC v1 3 tI a0.sizes,aC v2 4 bF a0.met,aC v3 4 bF a0.defs]) ?_ ?_
 revert H;refine I4 (fun c1 H=>?_) fun c1 H=>?_
 revert H;refine I10 (fun c2 H=>?_) fun c2 H=>?_
 revert H;refine B5 fun y1 h1 H=>?_
 refine Z1 ?_
 refine Yh 2 rfl c2 (fZ rfl rfl hh (sc rfl) (cB h1) rfl) ?_
 revert H;refine B2 fun y2 h2 H=>?_
 rcases y2 with y2 | pv1 <;> dsimp only at H
 refine Tc (aT _ _ h2).s ?_
 refine Z1 ?_
 exact Tm (()) (ij H)
 refine Tp (aT _ _ h2).pan ?_
 revert H;refine B1 fun r1 H e1=>?_
 cases e1;cases Hr1
 cases H
 exact bP
 revert H;refine B9 fun y3 h3 H=>?_
 rcases y3 with y3 | pv2 <;> dsimp only at H
 refine Tc (aT _ _ h3).s ?_
 refine Z1 ?_
 exact Tm (()) (ij H)
 refine Tp (aT _ _ h3).pan ?_
 revert H;refine B1 fun r2 H e2=>?_
 cases e2;cases Hr1
 cases H
 exact bP
 refine Z12 ?_
 revert H;refine B7 fun y4 h4 H=>?_
 rcases y4 with y4 | pv3 <;> dsimp only at H
 refine Tc (aT _ _ h4).s ?_
 refine Z1 ?_
 exact Tm (()) (ij H)
 refine Tp (aT _ _ h4).pan ?_
 revert H;refine B1 fun r3 H e3=>?_
 cases e3;cases Hr1
 cases H
 exact bP
 clear H;intro i hi;subst o1;have H:=Hr1;clear Hr1;try dsimp only at H
 try dsimp only
 refine aI ?_
 revert H;refine bs fun y5 h5 H=>?_
 revert H;refine bs fun y6 h6 H=>?_
 apply bE (ods:=[_,_,_,_,_,_,_,_,_,_,_,_,_,_,_]) 15 0 4 bD rfl rfl rfl
 refine ND ?_
 refine M8 ?_
 intros
 refine M4 ?_
 intros
 refine lP (od:=odC [2] true (dN) [aC v2 4 bF (a0.met.set a1.toNat true)]) (p:=2) (z':=true) rfl (fun _=>rfl) (fun _=>rfl) trivial rfl rfl rfl rfl (has rfl) (has rfl) (aD trivial) (sz rfl) (cB h5) rfl rfl (fun _=>?_)
 refine M1 ?_
 intros
 refine lP (od:=odC [1] true (dN) [aC v1 3 tI (a0.sizes.set a1.toNat a2)]) (p:=1) (z':=a2) rfl (fun _=>rfl) (fun _=>rfl) trivial rfl rfl rfl rfl (has rfl) (has rfl) (aD trivial) (sz rfl) (cB h6) rfl rfl (fun _=>?_)
 revert H;refine B9 fun y7 h7 H=>?_
 refine Z2 ?_
 refine Tn (cV rfl tE rfl) fun b1=>?_
 refine dR (φs':=[fI y7.Op,fI y7.N,fSl cF y7.Args,fSl tI y7.Kids]) trivial rfl rfl (has rfl) (has rfl) (aK (aD trivial) (aK (aD trivial) (aK (bU) (aK (bU) bY)))) (sz rfl) rfl rfl rfl ?_
 revert H;refine B4 fun y8 h8 H=>?_
 refine Tc (aH8 _ _ h8) ?_
 revert H;refine B2 fun o2 H Hr2=>?_
 refine aO (ι:=Unit) (fun i=>o2=Sum.inl ()) (fun i=>[(0,fEq (ptr p0)),(2,fI a2),(6,fEq (ptr b1)),(7,eC y8)]) (fun i=>[aA b1 140 [fI y7.Op,fI y7.N,fSl cF y7.Args,fSl tI y7.Kids],aA p0 174 [fSl aE a0.p.Free,fSl aG a0.p.Nodes,fSl aB a0.p.Defs,fI a0.p.Main,fEq v1,fEq v2,fEq v3],aC v1 3 tI (a0.sizes.set a1.toNat a2),aC v2 4 bF (a0.met.set a1.toNat true),aC v3 4 bF a0.defs]) ?_ ?_
 revert H;refine bs fun x1 h9 H=>?_
 revert H;refine cs (fun c3 H=>?_) fun c3 H=>?_
 revert H;refine bs fun y9 h10 H=>?_
 apply bE (ods:=[_,_,_,_,_,_,_,_,_,_]) 10 0 5 bD rfl rfl rfl
 refine ND ?_
 refine M1 ?_
 intros
 refine My (aAg rfl (iK rfl fH) aD3 h9) fun _=>?_
 refine M5 ?_
 intros
 refine N_callI (od:=odC [] true (fI y9) []) (Φ:=fI y9) rfl (fun _=>rfl) ⟨_,_,rfl,rfl,c3⟩ rfl rfl (iK rfl fH) aL.nil (aF8 y8 y9 h10) (fun _=>?_)
 refine M2 ?_
 intros
 revert H;refine B1 fun y10 h11 H=>?_
 rcases y10 with y10 | pv4 <;> dsimp only at H
 refine Tc (aT _ _ h11).s ?_
 refine Z1 ?_
 exact Tm (()) (ij H)
 refine Tp (aT _ _ h11).pan ?_
 revert H;refine B1 fun r4 H e4=>?_
 cases e4;cases Hr2
 cases H
 exact bP
 exact fk
 kernel_rfl
 apply bE (ods:=[_,_,_,_,_,_,_,_,_,_]) 10 0 5 bD rfl rfl rfl
 refine ND ?_
 refine M1 ?_
 intros
 refine My (aAg rfl (iK rfl fH) aD3 h9) fun _=>?_
 refine M8 ?_
 intros
 revert H;refine B1 fun y11 h12 H=>?_
 rcases y11 with y11 | pv5 <;> dsimp only at H
 refine Tc (aT _ _ h12).s ?_
 refine Z1 ?_
 exact Tm (()) (ij H)
 refine Tp (aT _ _ h12).pan ?_
 revert H;refine B1 fun r5 H e5=>?_
 cases e5;cases Hr2
 cases H
 exact bP
 exact fk
 kernel_rfl
 clear H;intro i hi;subst o2;have H:=Hr2;clear Hr2;try dsimp only at H
 try dsimp only
 revert H;refine B3 fun o3 H Hr3=>?_
 refine aO (ι:=Int) (fun i=>o3=Sum.inl i) (fun i=>[(0,fEq (ptr p0)),(2,fI a2),(6,fEq (ptr b1)),(8,fI i)]) (fun i=>[aA b1 140 [fI y7.Op,fI y7.N,fSl cF y7.Args,fSl tI y7.Kids],aA p0 174 [fSl aE a0.p.Free,fSl aG a0.p.Nodes,fSl aB a0.p.Defs,fI a0.p.Main,fEq v1,fEq v2,fEq v3],aC v1 3 tI (a0.sizes.set a1.toNat a2),aC v2 4 bF (a0.met.set a1.toNat true),aC v3 4 bF a0.defs]) ?_ ?_
 revert H;refine B5 fun y12 h13 H=>?_
 obtain⟨u1,x3⟩:=y12;dsimp only at H
 refine Yy (xS rfl (iK rfl fH) aED aIG h13) ?_
 refine Z3 ?_
 revert H;refine cs (fun c4 H=>?_) fun c4 H=>?_
 refine Z12 ?_
 revert H;refine I1 (fun c5 H=>?_) fun c5 H=>?_
 revert H;refine B5 fun y13 h14 H=>?_
 rcases y13 with y13 | pv6 <;> dsimp only at H
 refine Tc (aT _ _ h14).s ?_
 refine Z3 ?_
 exact Tm (min (y7.Args.length:Int) 3) (ij H)
 refine Tp (aT _ _ h14).pan ?_
 revert H;refine B2 fun r6 H e6=>?_
 cases e6;cases Hr3
 cases H
 exact bP
 revert H;refine B5 fun y14 h15 H=>?_
 rcases y14 with y14 | pv7 <;> dsimp only at H
 refine Tc (aT _ _ h15).s ?_
 refine Z3 ?_
 exact Tm (min (y7.Args.length:Int) 3) (ij H)
 refine Tp (aT _ _ h15).pan ?_
 revert H;refine B2 fun r7 H e7=>?_
 cases e7;cases Hr3
 cases H
 exact bP
 revert H;refine B2 fun y15 h16 H=>?_
 obtain⟨u2,x4⟩:=y15;dsimp only at H
 refine Yy (xS rfl (iK rfl fH) aEp aG9 h16) ?_
 refine Z3 ?_
 revert H;refine cs (fun c6 H=>?_) fun c6 H=>?_
 revert H;refine I6 (fun c7 H=>?_) fun c7 H=>?_
 revert H;refine B5 fun y16 h17 H=>?_
 rcases y16 with y16 | pv8 <;> dsimp only at H
 refine Tc (aT _ _ h17).s ?_
 refine Z3 ?_
 exact Tm (0) (ij H)
 refine Tp (aT _ _ h17).pan ?_
 revert H;refine B2 fun r8 H e8=>?_
 cases e8;cases Hr3
 cases H
 exact bP
 revert H;refine B5 fun y17 h18 H=>?_
 rcases y17 with y17 | pv9 <;> dsimp only at H
 refine Tc (aT _ _ h18).s ?_
 refine Z3 ?_
 exact Tm (0) (ij H)
 refine Tp (aT _ _ h18).pan ?_
 revert H;refine B2 fun r9 H e9=>?_
 cases e9;cases Hr3
 cases H
 exact bP
 revert H;refine B2 fun y18 h19 H=>?_
 obtain⟨u3,x5⟩:=y18;dsimp only at H
 refine Yy (xS rfl (iK rfl fH) aEE aF3 h19) ?_
 refine Z3 ?_
 revert H;refine cs (fun c8 H=>?_) fun c8 H=>?_
 revert H;refine I1 (fun c9 H=>?_) fun c9 H=>?_
 revert H;refine is (fun c10 H=>?_) fun c10 H=>?_
 revert H;refine bs fun y19 h20 H=>?_
 apply bE (ods:=[_,_,_,_,_,_,_,_,_,_,_,_,_,_,_,_,_,_,_,_,_,_,_,_,_]) 25 0 5 bD rfl rfl rfl
 refine ND ?_
 refine M8 ?_
 intros
 refine M8 ?_
 intros
 refine M6 ?_
 intros
 refine dX (od:=odC [4] false (aJ y19) [cX]) (ps:=[4]) (φ:=aJ y19) rfl (fun _=>rfl) ⟨_,_,rfl,rfl,c10⟩ rfl rfl (fZ rfl rfl hh (sc rfl) (cB h20) rfl) (fun _=>?_)
 refine M2 ?_
 intros
 revert H;refine B1 fun y20 h21 H=>?_
 rcases y20 with y20 | pv10 <;> dsimp only at H
 refine Tc (aT _ _ h21).s ?_
 refine Z3 ?_
 exact Tm (0) (ij H)
 refine Tp (aT _ _ h21).pan ?_
 revert H;refine B2 fun r10 H e10=>?_
 cases e10;cases Hr3
 cases H
 exact bP
 exact fk
 kernel_rfl
 apply bE (ods:=[_,_,_,_,_,_,_,_,_,_,_,_,_,_,_,_,_,_,_,_,_,_,_,_,_]) 25 0 5 bD rfl rfl rfl
 refine ND ?_
 refine M8 ?_
 intros
 refine M8 ?_
 intros
 refine M8 ?_
 intros
 refine M1 ?_
 intros
 revert H;refine B1 fun y21 h22 H=>?_
 rcases y21 with y21 | pv11 <;> dsimp only at H
 refine Tc (aT _ _ h22).s ?_
 refine Z3 ?_
 exact Tm (0) (ij H)
 refine Tp (aT _ _ h22).pan ?_
 revert H;refine B2 fun r11 H e11=>?_
 cases e11;cases Hr3
 cases H
 exact bP
 exact fk
 kernel_rfl
 apply bE (ods:=[_,_,_,_,_,_,_,_,_,_,_,_,_,_,_,_,_,_,_,_,_,_,_,_,_]) 25 0 5 bD rfl rfl rfl
 refine ND ?_
 refine M8 ?_
 intros
 refine M8 ?_
 intros
 refine M8 ?_
 intros
 refine M1 ?_
 intros
 revert H;refine B1 fun y22 h23 H=>?_
 rcases y22 with y22 | pv12 <;> dsimp only at H
 refine Tc (aT _ _ h23).s ?_
 refine Z3 ?_
 exact Tm (0) (ij H)
 refine Tp (aT _ _ h23).pan ?_
 revert H;refine B2 fun r12 H e12=>?_
 cases e12;cases Hr3
 cases H
 exact bP
 exact fk
 kernel_rfl
 revert H;refine B2 fun y23 h24 H=>?_
 obtain⟨u4,x6⟩:=y23;dsimp only at H
 refine Yy (xS rfl (iK rfl fH) aEr aGl h24) ?_
 refine Z3 ?_
 revert H;refine cs (fun c11 H=>?_) fun c11 H=>?_
 revert H;refine B8 fun y24 h25 H=>?_
 rcases y24 with y24 | pv13 <;> dsimp only at H
 refine Tc (aT _ _ h25).s ?_
 refine Z3 ?_
 exact Tm (1) (ij H)
 refine Tp (aT _ _ h25).pan ?_
 revert H;refine B2 fun r13 H e13=>?_
 cases e13;cases Hr3
 cases H
 exact bP
 revert H;refine B5 fun y25 h26 H=>?_
 rcases y25 with y25 | pv14 <;> dsimp only at H
 refine Tc (aT _ _ h26).s ?_
 refine Z3 ?_
 exact Tm (0) (ij H)
 refine Tp (aT _ _ h26).pan ?_
 revert H;refine B2 fun r14 H e14=>?_
 cases e14;cases Hr3
 cases H
 exact bP
 clear H;intro x2 hi;subst o3;have H:=Hr3;clear Hr3;try dsimp only at H
 try dsimp only
 revert H;refine B6 fun y26 h27 H=>?_
 rcases y26 with y26 | pv15 <;> dsimp only at H
 refine Tc (aT _ _ h27).s ?_
 revert H;refine B1 fun o4 H Hr4=>?_
 refine aO (ι:=Unit) (fun i=>o4=Sum.inl ()) (fun i=>[(0,fEq (ptr p0)),(2,fI a2),(6,fEq (ptr b1))]) (fun i=>[aA b1 140 [fI y7.Op,fI y7.N,fSl cF y7.Args,fSl tI y7.Kids],aA p0 174 [fSl aE a0.p.Free,fSl aG a0.p.Nodes,fSl aB a0.p.Defs,fI a0.p.Main,fEq v1,fEq v2,fEq v3],aC v1 3 tI (a0.sizes.set a1.toNat a2),aC v2 4 bF (a0.met.set a1.toNat true),aC v3 4 bF a0.defs]) ?_ ?_
 refine Z7 ?_
 refine Tl (ι:=Nat × Int) (fun i=>lT fuel a2 y7 i.1 i.2=_) (fun i=>i.1) (fun i=>[(0,fEq (ptr p0)),(2,fI a2),(6,fEq (ptr b1)),(154,fSl cF y7.Args),(155,fI (y7.Args.length:Int)),(156,fI i.2)]) (fun i=>[aA b1 140 [fI y7.Op,fI y7.N,fSl cF y7.Args,fSl tI y7.Kids],aA p0 174 [fSl aE a0.p.Free,fSl aG a0.p.Nodes,fSl aB a0.p.Defs,fI a0.p.Main,fEq v1,fEq v2,fEq v3],aC v1 3 tI (a0.sizes.set a1.toNat a2),aC v2 4 bF (a0.met.set a1.toNat true),aC v3 4 bF a0.defs]) (fuel,0) H ?_
 clear H;rintro⟨k1,x8⟩ H
 replace H:lT fuel a2 y7 k1 x8=_:=H
 try dsimp only
 obtain _ | k1:=k1
 rw [lT]at H;cases H
 rw [lT]at H
 refine Z3 ?_
 refine aI ?_
 revert H;refine is (fun c12 H=>?_) fun c12 H=>?_
 refine Z3 ?_
 refine aI ?_
 revert H;refine B2 fun y27 h28 H=>?_
 refine Z2 ?_
 refine Tn (cV rfl aCi rfl) fun b2=>?_
 refine dR (φs':=[fI y27.Op,fI y27.N,fW y27.Kids]) trivial rfl rfl (has rfl) (has rfl) (aK (aD trivial) (aK (aD trivial) (aK (aAE) bY))) (sz rfl) rfl rfl rfl ?_
 revert H;refine B4 fun y28 h29 H=>?_
 rcases y28 with y28 | pv16 <;> dsimp only at H
 refine Tc (aDd _ _ _ _ h29).s ?_
 revert H;refine B4 fun z1 h30 H=>?_
 refine Z3 ?_
 refine aH [1,2,3,4,5] (by decide) ?_
 exact Tm ((k1,z1)) ⟨H,ls⟩
 refine Tp (aDd _ _ _ _ h29).pan ?_
 revert H;refine B5 fun r15 H e15=>?_
 cases e15;cases Hr4
 cases H
 exact bP
 refine Z6 ?_
 exact Tm (()) (ij H)
 clear H;intro i hi;subst o4;have H:=Hr4;clear Hr4;try dsimp only at H
 try dsimp only
 revert H;refine bs fun o5 H Hr5=>?_
 refine aO (ι:=Int × List ByteArray × List ScopeNode × List ScopeDef × Int × List Int × List Bool × List Bool × Value × Value × Value) (fun i=>o5=Sum.inl (i.1,i.2.1,i.2.2.1,i.2.2.2.1,i.2.2.2.2.1,i.2.2.2.2.2.1,i.2.2.2.2.2.2.1,i.2.2.2.2.2.2.2.1)) (fun i=>[(0,fEq (ptr p0)),(2,fI i.1),(6,fEq (ptr b1))]) (fun i=>[aA b1 140 [fI y7.Op,fI y7.N,fSl cF y7.Args,fSl tI y7.Kids],aA p0 174 [fSl aE i.2.1,fSl aG i.2.2.1,fSl aB i.2.2.2.1,fI i.2.2.2.2.1,fEq i.2.2.2.2.2.2.2.2.1,fEq i.2.2.2.2.2.2.2.2.2.1,fEq i.2.2.2.2.2.2.2.2.2.2],aC i.2.2.2.2.2.2.2.2.1 3 tI i.2.2.2.2.2.1,aC i.2.2.2.2.2.2.2.2.2.1 4 bF i.2.2.2.2.2.2.1,aC i.2.2.2.2.2.2.2.2.2.2 4 bF i.2.2.2.2.2.2.2.1]) ?_ ?_
 revert H;refine I5 (fun c13 H=>?_) fun c13 H=>?_
 refine Z1 ?_
 refine aI ?_
 revert H;refine bs fun y29 h31 H=>?_
 apply bE (ods:=[_,_,_,_,_,_,_,_]) 8 0 5 bD rfl rfl rfl
 refine ND ?_
 refine M7 ?_
 intros
 refine lP (od:=odC [4] true (dN) [aC v3 4 bF (a0.defs.set y7.N.toNat true)]) (p:=4) (z':=true) rfl (fun _=>rfl) (fun _=>rfl) trivial rfl rfl rfl rfl (has rfl) (has rfl) (aD trivial) (sz rfl) (cB h31) rfl rfl (fun _=>?_)
 refine Z2 ?_
 refine aI ?_
 revert H;refine bs fun y30 h32 H=>?_
 apply bE (ods:=[_,_,_,_,_,_,_,_,_,_,_]) 11 1 6 bD rfl rfl rfl
 refine ND ?_
 refine M8 ?_
 intros
 refine M1 ?_
 intros
 refine Mn 5 (fun b3=>ptr b3) (fun b3=>aA b3 63 [fEq (.slice none 0 0),fEq (.slice none 0 0),fEq (.slice none 0 0)]) rfl (cV rfl vR rfl) (fun b3 u5=>?_)
 refine tN (od:=od1 9 [5] true (fun b3 _=>dN) (fun b3 _=>[aA b3 63 [fSl aS y30.Chans,fSl aY y30.Spots,fSl aZ y30.Rules]])) (p:=5) (φs':=[fSl aS y30.Chans,fSl aY y30.Spots,fSl aZ y30.Rules]) rfl (fun _=>rfl) (fun _=>rfl) trivial rfl rfl rfl (has rfl) (has rfl) (aK (bU) (aK (bU) (aK (bU) bY))) (sz rfl) rfl rfl rfl (fun _=>?_)
 revert H;refine B4 fun y31 h33 H=>?_
 rcases y31 with y31 | pv17 <;> dsimp only at H
 refine Tc (aC0 _ _ _ h33).s ?_
 revert H;refine B4 fun y32 h34 H=>?_
 refine Tc (aHI _ _ h34) ?_
 revert H;refine bs fun z2 h35 H=>?_
 revert H;refine B3 fun o6 H Hr6=>?_
 refine aO (ι:=List ByteArray × List ScopeNode × List ScopeDef × Int × List Int × List Bool × List Bool × Value × Value × Value) (fun i=>o6=Sum.inl (i.1,i.2.1,i.2.2.1,i.2.2.2.1,i.2.2.2.2.1,i.2.2.2.2.2.1,i.2.2.2.2.2.2.1)) (fun i=>[(0,fEq (ptr p0)),(2,fI z2),(6,fEq (ptr b1)),(11,fEq (ptr b3))]) (fun i=>[aA b1 140 [fI y7.Op,fI y7.N,fSl cF y7.Args,fSl tI y7.Kids],aA p0 174 [fSl aE i.1,fSl aG i.2.1,fSl aB i.2.2.1,fI i.2.2.2.1,fEq i.2.2.2.2.2.2.2.1,fEq i.2.2.2.2.2.2.2.2.1,fEq i.2.2.2.2.2.2.2.2.2],aA b3 63 [fSl aS y30.Chans,fSl aY y30.Spots,fSl aZ y30.Rules],aC i.2.2.2.2.2.2.2.1 3 tI i.2.2.2.2.1,aC i.2.2.2.2.2.2.2.2.1 4 bF i.2.2.2.2.2.1,aC i.2.2.2.2.2.2.2.2.2 4 bF i.2.2.2.2.2.2.1]) ?_ ?_
 refine Z7 ?_
 refine aH [0,1,5,2,3,4] (by decide) ?_
 refine Tl (ι:=Nat × Int × List ByteArray × List ScopeNode × List ScopeDef × Int × List Int × List Bool × List Bool × Value × Value × Value) (fun i=>mA fuel (fC fuel) y30 z2 i.1 i.2.1 i.2.2.1 i.2.2.2.1 i.2.2.2.2.1 i.2.2.2.2.2.1 i.2.2.2.2.2.2.1 i.2.2.2.2.2.2.2.1 i.2.2.2.2.2.2.2.2.1=_) (fun i=>i.1) (fun i=>[(0,fEq (ptr p0)),(2,fI z2),(6,fEq (ptr b1)),(11,fEq (ptr b3)),(190,fSl aZ y30.Rules),(191,fI (y30.Rules.length:Int)),(192,fI i.2.1)]) (fun i=>[aA b1 140 [fI y7.Op,fI y7.N,fSl cF y7.Args,fSl tI y7.Kids],aA p0 174 [fSl aE i.2.2.1,fSl aG i.2.2.2.1,fSl aB i.2.2.2.2.1,fI i.2.2.2.2.2.1,fEq i.2.2.2.2.2.2.2.2.2.1,fEq i.2.2.2.2.2.2.2.2.2.2.1,fEq i.2.2.2.2.2.2.2.2.2.2.2],aA b3 63 [fSl aS y30.Chans,fSl aY y30.Spots,fSl aZ y30.Rules],aC i.2.2.2.2.2.2.2.2.2.1 3 tI i.2.2.2.2.2.2.1,aC i.2.2.2.2.2.2.2.2.2.2.1 4 bF i.2.2.2.2.2.2.2.1,aC i.2.2.2.2.2.2.2.2.2.2.2 4 bF i.2.2.2.2.2.2.2.2.1]) (fuel,0,a0.p.Free,a0.p.Nodes,a0.p.Defs,a0.p.Main,a0.sizes.set a1.toNat a2,a0.met.set a1.toNat true,a0.defs.set y7.N.toNat true,v1,v2,v3) H ?_
 clear H;rintro⟨k2,x32,x33,x34,x35,x36,x37,x38,x39,v13,v14,v15⟩ H
 replace H:mA fuel (fC fuel) y30 z2 k2 x32 x33 x34 x35 x36 x37 x38 x39=_:=H
 try dsimp only
 obtain _ | k2:=k2
 rw [mA]at H;cases H
 rw [mA]at H
 refine aF 3 rfl (fun hc_v13=>?_)
 refine aF 4 rfl (fun hc_v14=>?_)
 refine aF 5 rfl (fun hc_v15=>?_)
 refine Z3 ?_
 refine aI ?_
 revert H;refine is (fun c14 H=>?_) fun c14 H=>?_
 refine Z3 ?_
 refine aI ?_
 revert H;refine B2 fun y33 h36 H=>?_
 refine Z2 ?_
 refine Tn (cV rfl pY rfl) fun b4=>?_
 refine dR (φs':=[fI y33.At,fSl tI y33.Joins,fI y33.Node]) trivial rfl rfl (has rfl) (has rfl) (aK (aD trivial) (aK (bU) (aK (aD trivial) bY))) (sz rfl) rfl rfl rfl ?_
 revert H;refine B1 fun y34 h37 H=>?_
 revert H;refine bs fun z3 h38 H=>?_
 apply bE (ods:=[_,_,_,_,_,_,_,_]) 8 0 7 bD rfl rfl rfl
 refine ND ?_
 refine M6 ?_
 intros
 refine Nc (aGN _ _ _ _ h37) fun _=>?_
 refine M1 ?_
 intros
 refine Z1 ?_
 refine oN ?_
 refine oN ?_
 refine oN ?_
 refine T_fr5 ?_
 refine wZ (x:=(⟨(⟨x33,x34,x35,x36⟩:ScopeProg),x37,x38,x39⟩:Scope_looker)) ?_
 revert H;refine bs fun y35 h39 H=>?_
 rcases y35 with y35 | pv18 <;> dsimp only at H
 refine Tc (ih_scope_looker_node _ _ _ _ _ h39).s ?_
 refine vS (fun v16 v17 v18=>?_)
 refine aF 1 rfl (fun hc_v16=>?_)
 refine aF 2 rfl (fun hc_v17=>?_)
 refine aF 3 rfl (fun hc_v18=>?_)
 revert H;refine B4 fun z4 h40 H=>?_
 refine Z3 ?_
 refine aH [5,0,6,1,2,3] (by decide) ?_
 exact Tm ((k2,z4,y35.p.Free,y35.p.Nodes,y35.p.Defs,y35.p.Main,y35.sizes,y35.met,y35.defs,v16,v17,v18)) ⟨H,ls⟩
 refine Tp (ih_scope_looker_node _ _ _ _ _ h39).pan ?_
 revert H;refine B5 fun r16 H e16=>?_
 cases e16;cases Hr6
 revert H;refine B1 fun r17 H e17=>?_
 cases e17;cases Hr5
 cases H
 exact bP
 exact fk
 kernel_rfl
 refine Z6 ?_
 exact Tm ((x33,x34,x35,x36,x37,x38,x39,v13,v14,v15)) (ij H)
 clear H;intro i hi;obtain⟨x17,x18,x19,x20,x21,x22,x23,v7,v8,v9⟩:=i;subst o6;have H:=Hr6;clear Hr6;try dsimp only at H
 try dsimp only
 refine aF 3 rfl (fun hc_v7=>?_)
 refine aF 4 rfl (fun hc_v8=>?_)
 refine aF 5 rfl (fun hc_v9=>?_)
 refine Z7 ?_
 refine Tl (ι:=Nat × Int × List ByteArray × List ScopeNode × List ScopeDef × Int × List Int × List Bool × List Bool × Value × Value × Value) (fun i=>mB (fC fuel) y30 z2 i.1 i.2.1 i.2.2.1 i.2.2.2.1 i.2.2.2.2.1 i.2.2.2.2.2.1 i.2.2.2.2.2.2.1 i.2.2.2.2.2.2.2.1 i.2.2.2.2.2.2.2.2.1=_) (fun i=>i.1) (fun i=>[(0,fEq (ptr p0)),(2,fI z2),(6,fEq (ptr b1)),(207,fSl aY y30.Spots),(208,fI (y30.Spots.length:Int)),(209,fI i.2.1)]) (fun i=>[aA b1 140 [fI y7.Op,fI y7.N,fSl cF y7.Args,fSl tI y7.Kids],aA p0 174 [fSl aE i.2.2.1,fSl aG i.2.2.2.1,fSl aB i.2.2.2.2.1,fI i.2.2.2.2.2.1,fEq i.2.2.2.2.2.2.2.2.2.1,fEq i.2.2.2.2.2.2.2.2.2.2.1,fEq i.2.2.2.2.2.2.2.2.2.2.2],aA b3 63 [fSl aS y30.Chans,fSl aY y30.Spots,fSl aZ y30.Rules],aC i.2.2.2.2.2.2.2.2.2.1 3 tI i.2.2.2.2.2.2.1,aC i.2.2.2.2.2.2.2.2.2.2.1 4 bF i.2.2.2.2.2.2.2.1,aC i.2.2.2.2.2.2.2.2.2.2.2 4 bF i.2.2.2.2.2.2.2.2.1]) (fuel,0,x17,x18,x19,x20,x21,x22,x23,v7,v8,v9) H ?_
 clear H;rintro⟨k3,x48,x49,x50,x51,x52,x53,x54,x55,v22,v23,v24⟩ H
 replace H:mB (fC fuel) y30 z2 k3 x48 x49 x50 x51 x52 x53 x54 x55=_:=H
 try dsimp only
 obtain _ | k3:=k3
 rw [mB]at H;cases H
 rw [mB]at H
 refine aF 3 rfl (fun hc_v22=>?_)
 refine aF 4 rfl (fun hc_v23=>?_)
 refine aF 5 rfl (fun hc_v24=>?_)
 refine Z3 ?_
 refine aI ?_
 revert H;refine is (fun c15 H=>?_) fun c15 H=>?_
 refine Z3 ?_
 refine aI ?_
 revert H;refine B2 fun y36 h41 H=>?_
 refine Z2 ?_
 refine Tn (cV rfl zF rfl) fun b5=>?_
 refine dR (φs':=[fI y36.In,fI y36.Node]) trivial rfl rfl (has rfl) (has rfl) (aK (aD trivial) (aK (aD trivial) bY)) (sz rfl) rfl rfl rfl ?_
 refine Z6 ?_
 refine oN ?_
 refine oN ?_
 refine oN ?_
 refine T_fr5 ?_
 refine wZ (x:=(⟨(⟨x49,x50,x51,x52⟩:ScopeProg),x53,x54,x55⟩:Scope_looker)) ?_
 revert H;refine bs fun y37 h42 H=>?_
 rcases y37 with y37 | pv19 <;> dsimp only at H
 refine Tc (ih_scope_looker_node _ _ _ _ _ h42).s ?_
 refine vS (fun v25 v26 v27=>?_)
 refine aF 1 rfl (fun hc_v25=>?_)
 refine aF 2 rfl (fun hc_v26=>?_)
 refine aF 3 rfl (fun hc_v27=>?_)
 revert H;refine B4 fun z5 h43 H=>?_
 refine Z3 ?_
 refine aH [5,0,6,1,2,3] (by decide) ?_
 exact Tm ((k3,z5,y37.p.Free,y37.p.Nodes,y37.p.Defs,y37.p.Main,y37.sizes,y37.met,y37.defs,v25,v26,v27)) ⟨H,ls⟩
 refine Tp (ih_scope_looker_node _ _ _ _ _ h42).pan ?_
 revert H;refine B5 fun r18 H e18=>?_
 cases e18;cases Hr5
 cases H
 exact bP
 refine Z6 ?_
 refine aH [0,1,3,4,5] (by decide) ?_
 exact Tm ((z2,x49,x50,x51,x52,x53,x54,x55,v22,v23,v24)) (ij H)
 refine Tp (aC0 _ _ _ h33).pan ?_
 revert H;refine B2 fun r19 H e19=>?_
 cases e19;cases Hr5
 cases H
 exact bP
 exact fk
 kernel_rfl
 exact fk
 kernel_rfl
 refine Z3 ?_
 exact Tm ((a2,a0.p.Free,a0.p.Nodes,a0.p.Defs,a0.p.Main,a0.sizes.set a1.toNat a2,a0.met.set a1.toNat true,a0.defs,v1,v2,v3)) (ij H)
 clear H;intro i hi;obtain⟨x9,x10,x11,x12,x13,x14,x15,x16,v4,v5,v6⟩:=i;subst o5;have H:=Hr5;clear Hr5;try dsimp only at H
 try dsimp only
 refine aF 2 rfl (fun hc_v4=>?_)
 refine aF 3 rfl (fun hc_v5=>?_)
 refine aF 4 rfl (fun hc_v6=>?_)
 refine Z7 ?_
 refine Tl (ι:=Nat × Int × List ByteArray × List ScopeNode × List ScopeDef × Int × List Int × List Bool × List Bool × Value × Value × Value) (fun i=>mM (fC fuel) y7 x9 i.1 i.2.1 i.2.2.1 i.2.2.2.1 i.2.2.2.2.1 i.2.2.2.2.2.1 i.2.2.2.2.2.2.1 i.2.2.2.2.2.2.2.1 i.2.2.2.2.2.2.2.2.1=_) (fun i=>i.1) (fun i=>[(0,fEq (ptr p0)),(2,fI x9),(220,fSl tI y7.Kids),(221,fI (y7.Kids.length:Int)),(222,fI i.2.1)]) (fun i=>[aA b1 140 [fI y7.Op,fI y7.N,fSl cF y7.Args,fSl tI y7.Kids],aA p0 174 [fSl aE i.2.2.1,fSl aG i.2.2.2.1,fSl aB i.2.2.2.2.1,fI i.2.2.2.2.2.1,fEq i.2.2.2.2.2.2.2.2.2.1,fEq i.2.2.2.2.2.2.2.2.2.2.1,fEq i.2.2.2.2.2.2.2.2.2.2.2],aC i.2.2.2.2.2.2.2.2.2.1 3 tI i.2.2.2.2.2.2.1,aC i.2.2.2.2.2.2.2.2.2.2.1 4 bF i.2.2.2.2.2.2.2.1,aC i.2.2.2.2.2.2.2.2.2.2.2 4 bF i.2.2.2.2.2.2.2.2.1]) (fuel,0,x10,x11,x12,x13,x14,x15,x16,v4,v5,v6) H ?_
 clear H;rintro⟨k4,x64,x65,x66,x67,x68,x69,x70,x71,v31,v32,v33⟩ H
 replace H:mM (fC fuel) y7 x9 k4 x64 x65 x66 x67 x68 x69 x70 x71=_:=H
 try dsimp only
 obtain _ | k4:=k4
 rw [mM]at H;cases H
 rw [mM]at H
 refine aF 2 rfl (fun hc_v31=>?_)
 refine aF 3 rfl (fun hc_v32=>?_)
 refine aF 4 rfl (fun hc_v33=>?_)
 refine Z3 ?_
 refine aI ?_
 revert H;refine is (fun c16 H=>?_) fun c16 H=>?_
 refine Z3 ?_
 refine aI ?_
 revert H;refine B2 fun y38 h44 H=>?_
 refine Z8 ?_
 refine bB ?_
 refine bB ?_
 refine bB ?_
 refine bB ?_
 refine wZ (x:=(⟨(⟨x65,x66,x67,x68⟩:ScopeProg),x69,x70,x71⟩:Scope_looker)) ?_
 revert H;refine bs fun y39 h45 H=>?_
 rcases y39 with y39 | pv20 <;> dsimp only at H
 refine Tc (ih_scope_looker_node _ _ _ _ _ h45).s ?_
 refine vS (fun v34 v35 v36=>?_)
 refine aF 1 rfl (fun hc_v34=>?_)
 refine aF 2 rfl (fun hc_v35=>?_)
 refine aF 3 rfl (fun hc_v36=>?_)
 revert H;refine B4 fun z6 h46 H=>?_
 refine Z3 ?_
 refine aH [4,0,1,2,3] (by decide) ?_
 exact Tm ((k4,z6,y39.p.Free,y39.p.Nodes,y39.p.Defs,y39.p.Main,y39.sizes,y39.met,y39.defs,v34,v35,v36)) ⟨H,ls⟩
 refine Tp (ih_scope_looker_node _ _ _ _ _ h45).pan ?_
 refine Z4 ?_
 cases H
 exact bP
 refine Z5 ?_
 refine bB ?_
 refine bB ?_
 refine bB ?_
 refine bB ?_
 refine wZ (x:=(⟨(⟨x65,x66,x67,x68⟩:ScopeProg),x69,x70,x71⟩:Scope_looker)) ?_
 cases H
 refine qP ?_
 refine aH [0] (by decide) ?_
 exact dC (.inr rfl) rfl rfl
 refine Tp (aT _ _ h27).pan ?_
 refine Z1 ?_
 cases H
 exact bP
 exact fk
 kernel_rfl
open Go.SX Go.SW Go.Dt
def oG (a0:List Bool) (a1:Bool):Nat → Int → Option ((Unit) ⊕ (Int))
| 0,_=>none
| k+1,x2=>
 if x2<(a0.length:Int)then
  (idx a0 x2).bind fun y1=>
  bif a1==y1 then
   (some x2).bind fun r=>some (Sum.inr r)
  else
   (chk (x2+1)).bind fun z1=>
   oG a0 a1 k z1
 else
  some (Sum.inl ())
def aAC (fuel:Nat) (a0:List Bool) (a1:Bool):Option (Int):=
 (oG a0 a1 fuel 0).bind fun o=>match o with
 | Sum.inr r=>some r
 | Sum.inl _=>
 some (-1)
theorem aIv (fuel:Nat)  (a0:List Bool) (a1:Bool) (r:Int) (H:aAC fuel a0 a1=some r):FnS Tryz.prog 179 [fSl bF a0,aJ a1] [] (fI r) (fun _=>[]):=by
 unfold aAC at H
 refine bS Tryz.func179 rfl Tryz.ntmps179 rfl (fun β=>?_)
 revert H;refine B3 fun o1 H Hr1=>?_
 refine aO (ι:=Unit) (fun i=>o1=Sum.inl ()) (fun i=>[]) (fun i=>[]) ?_ ?_
 refine Z6 ?_
 refine Tl (ι:=Nat × Int) (fun i=>oG a0 a1 i.1 i.2=_) (fun i=>i.1) (fun i=>[(0,fSl bF a0),(1,aJ a1),(7,fI (a0.length:Int)),(8,fI i.2)]) (fun i=>[]) (fuel,0) H ?_
 clear H;rintro⟨k1,x2⟩ H
 replace H:oG a0 a1 k1 x2=_:=H
 try dsimp only
 obtain _ | k1:=k1
 rw [oG]at H;cases H
 rw [oG]at H
 refine Z3 ?_
 refine aI ?_
 revert H;refine is (fun c1 H=>?_) fun c1 H=>?_
 refine Z3 ?_
 refine aI ?_
 revert H;refine B9 fun y1 h1 H=>?_
 refine Z2 ?_
 refine Yy (o_eqlB rfl hh hh aHw) ?_
 refine Z1 ?_
 revert H;refine cs (fun c2 H=>?_) fun c2 H=>?_
 revert H;refine B11 fun r1 H e1=>?_
 cases e1;cases Hr1
 cases H
 exact To
 revert H;refine B5 fun z1 h2 H=>?_
 refine Z3 ?_
 exact Tm ((k1,z1)) ⟨H,ls⟩
 refine Z6 ?_
 exact Tm (()) (ij H)
 clear H;intro i hi;subst o1;have H:=Hr1;clear Hr1;try dsimp only at H
 try dsimp only
 refine Z4 ?_
 cases H
 exact To
def uE (fuel:Nat) (a0:List Bool) (a1:Bool):Option (Bool):=
 (aAC fuel a0 a1).bind fun y1=>
 some (decide (0 ≤ y1))
theorem aDU (fuel:Nat)  (a0:List Bool) (a1:Bool) (r:Bool) (H:uE fuel a0 a1=some r):FnS Tryz.prog 162 [fSl bF a0,aJ a1] [] (aJ r) (fun _=>[]):=by
 unfold uE at H
 refine bS Tryz.func162 rfl Tryz.ntmps162 rfl (fun β=>?_)
 revert H;refine B6 fun y1 h1 H=>?_
 refine Tc (aIv _ _ _ _ h1) ?_
 refine Z4 ?_
 cases H
 exact To
def mD (fuel:Nat) (a0:ScopeProg):Nat → Int → Option ((Unit) ⊕ (Scope_looker ⊕ Value))
| 0,_=>none
| k+1,x2=>
 if x2<(a0.Free.length:Int)then
  ((idx a0.Free x2).bind fun y4=>
  (rJ fuel y4).bind fun y5=>
  bif y5 then
   if x2=0 then
    (bM true).bind fun y6=>
    match y6 with
    | Sum.inr pv4=>((some (Sum.inr pv4)).bind fun r=>some (Sum.inr r)).bind fun r=>some (Sum.inr r)
    | Sum.inl y6=>
    some (Sum.inl ())
   else
    (chk (x2 - 1)).bind fun z1=>
    (idx a0.Free z1).bind fun y7=>
    (bM (slt y7 y4)).bind fun y8=>
    match y8 with
    | Sum.inr pv5=>((some (Sum.inr pv5)).bind fun r=>some (Sum.inr r)).bind fun r=>some (Sum.inr r)
    | Sum.inl y8=>
    some (Sum.inl ())
  else
   (bM false).bind fun y9=>
   match y9 with
   | Sum.inr pv6=>((some (Sum.inr pv6)).bind fun r=>some (Sum.inr r)).bind fun r=>some (Sum.inr r)
   | Sum.inl y9=>
   some (Sum.inl ())).bind fun o=>match o with
  | Sum.inr r=>some r
  | Sum.inl _=>
  (chk (x2+1)).bind fun z2=>
  mD fuel a0 k z2
 else
  some (Sum.inl ())
def yJ (fuel:Nat) (a0:ScopeProg):Option (Scope_looker ⊕ Value):=
 (if (a0.Free.length:Int) ≤ 12 then
  if (a0.Nodes.length:Int) ≤ 60 then
   (bM (decide ((a0.Defs.length:Int) ≤ 12))).bind fun y1=>
   match y1 with
   | Sum.inr pv1=>(some (Sum.inr pv1)).bind fun r=>some (Sum.inr r)
   | Sum.inl y1=>
   some (Sum.inl ())
  else
   (bM false).bind fun y2=>
   match y2 with
   | Sum.inr pv2=>(some (Sum.inr pv2)).bind fun r=>some (Sum.inr r)
   | Sum.inl y2=>
   some (Sum.inl ())
 else
  (bM false).bind fun y3=>
  match y3 with
  | Sum.inr pv3=>(some (Sum.inr pv3)).bind fun r=>some (Sum.inr r)
  | Sum.inl y3=>
  some (Sum.inl ())).bind fun o=>match o with
 | Sum.inr r=>some r
 | Sum.inl _=>
 (mD fuel a0 fuel 0).bind fun o=>match o with
 | Sum.inr r=>some r
 | Sum.inl _=>
 (mk 0 (a0.Nodes.length:Int)).bind fun y10=>
 (mk false (a0.Nodes.length:Int)).bind fun y11=>
 (mk false (a0.Defs.length:Int)).bind fun y12=>
 (fC fuel (⟨(⟨a0.Free,a0.Nodes,a0.Defs,a0.Main⟩:ScopeProg),y10,y11,y12⟩:Scope_looker) a0.Main (a0.Free.length:Int)).bind fun y13=>
 match y13 with
 | Sum.inr pv7=>some (Sum.inr pv7)
 | Sum.inl y13=>
 ((uE fuel y13.met false).bind fun y14=>
 bif !y14 then
  (uE fuel y13.defs false).bind fun y15=>
  (bM (!y15)).bind fun y16=>
  match y16 with
  | Sum.inr pv8=>(some (Sum.inr pv8)).bind fun r=>some (Sum.inr r)
  | Sum.inl y16=>
  some (Sum.inl y13.defs)
 else
  (bM false).bind fun y17=>
  match y17 with
  | Sum.inr pv9=>(some (Sum.inr pv9)).bind fun r=>some (Sum.inr r)
  | Sum.inl y17=>
  some (Sum.inl y13.defs)).bind fun o=>match o with
 | Sum.inr r=>some r
 | Sum.inl x3=>
 some (Sum.inl (⟨(⟨y13.p.Free,y13.p.Nodes,y13.p.Defs,y13.p.Main⟩:ScopeProg),y13.sizes,y13.met,x3⟩:Scope_looker))
theorem aEO (fuel:Nat)  (a0:ScopeProg) (r:Scope_looker ⊕ Value) (H:yJ fuel a0=some r):FnE Tryz.prog 141 [fSt fJ a0] [] r (fun r=>bG mJ r) (fun r=>[]):=by
 unfold yJ at H
 refine rK Tryz.func141 rfl Tryz.ntmps141 rfl (fun β=>?_)
 refine Z1 ?_
 refine Tn (cO rfl hh bW) fun b1=>?_
 revert H;refine B2 fun o1 H Hr1=>?_
 refine aO (ι:=Unit) (fun i=>o1=Sum.inl ()) (fun i=>[(1,fEq (ptr b1))]) (fun i=>[aA b1 37 [fSl aE a0.Free,fSl aG a0.Nodes,fSl aB a0.Defs,fI a0.Main]]) ?_ ?_
 revert H;refine I6 (fun c1 H=>?_) fun c1 H=>?_
 revert H;refine I6 (fun c2 H=>?_) fun c2 H=>?_
 revert H;refine B5 fun y1 h1 H=>?_
 rcases y1 with y1 | pv1 <;> dsimp only at H
 refine Tc (aT _ _ h1).s ?_
 refine Z1 ?_
 exact Tm (()) (ij H)
 refine Tp (aT _ _ h1).pan ?_
 revert H;refine B1 fun r1 H e1=>?_
 cases e1;cases Hr1
 cases H
 exact bP
 revert H;refine B5 fun y2 h2 H=>?_
 rcases y2 with y2 | pv2 <;> dsimp only at H
 refine Tc (aT _ _ h2).s ?_
 refine Z1 ?_
 exact Tm (()) (ij H)
 refine Tp (aT _ _ h2).pan ?_
 revert H;refine B1 fun r2 H e2=>?_
 cases e2;cases Hr1
 cases H
 exact bP
 revert H;refine B11 fun y3 h3 H=>?_
 rcases y3 with y3 | pv3 <;> dsimp only at H
 refine Tc (aT _ _ h3).s ?_
 refine Z1 ?_
 exact Tm (()) (ij H)
 refine Tp (aT _ _ h3).pan ?_
 revert H;refine B1 fun r3 H e3=>?_
 cases e3;cases Hr1
 cases H
 exact bP
 clear H;intro i hi;subst o1;have H:=Hr1;clear Hr1;try dsimp only at H
 try dsimp only
 revert H;refine bs fun o2 H Hr2=>?_
 refine aO (ι:=Unit) (fun i=>o2=Sum.inl ()) (fun i=>[(1,fEq (ptr b1))]) (fun i=>[aA b1 37 [fSl aE a0.Free,fSl aG a0.Nodes,fSl aB a0.Defs,fI a0.Main]]) ?_ ?_
 refine Z7 ?_
 refine Tl (ι:=Nat × Int) (fun i=>mD fuel a0 i.1 i.2=_) (fun i=>i.1) (fun i=>[(1,fEq (ptr b1)),(24,fSl aE a0.Free),(25,fI (a0.Free.length:Int)),(26,fI i.2)]) (fun i=>[aA b1 37 [fSl aE a0.Free,fSl aG a0.Nodes,fSl aB a0.Defs,fI a0.Main]]) (fuel,0) H ?_
 clear H;rintro⟨k1,x2⟩ H
 replace H:mD fuel a0 k1 x2=_:=H
 try dsimp only
 obtain _ | k1:=k1
 rw [mD]at H;cases H
 rw [mD]at H
 refine Z3 ?_
 refine aI ?_
 revert H;refine is (fun c3 H=>?_) fun c3 H=>?_
 revert H;refine B3 fun o3 H Hr3=>?_
 refine aO (ι:=Unit) (fun i=>o3=Sum.inl ()) (fun i=>[(1,fEq (ptr b1)),(24,fSl aE a0.Free),(25,fI (a0.Free.length:Int)),(26,fI x2)]) (fun i=>[aA b1 37 [fSl aE a0.Free,fSl aG a0.Nodes,fSl aB a0.Defs,fI a0.Main]]) ?_ ?_
 revert H;refine B3 fun y4 h4 H=>?_
 revert H;refine B7 fun y5 h5 H=>?_
 refine Tc (aIK _ _ _ h5) ?_
 refine Z1 ?_
 revert H;refine cs (fun c4 H=>?_) fun c4 H=>?_
 revert H;refine I3 (fun c5 H=>?_) fun c5 H=>?_
 revert H;refine B10 fun y6 h6 H=>?_
 rcases y6 with y6 | pv4 <;> dsimp only at H
 refine Tc (aT _ _ h6).s ?_
 refine Z3 ?_
 exact Tm (()) (ij H)
 refine Tp (aT _ _ h6).pan ?_
 revert H;refine B2 fun r4 H e4=>?_
 cases e4;cases Hr3
 revert H;refine B3 fun r5 H e5=>?_
 cases e5;cases Hr2
 cases H
 exact bP
 revert H;refine B3 fun z1 h7 H=>?_
 revert H;refine B1 fun y7 h8 H=>?_
 refine Z3 ?_
 refine Yg c5 (o_lssS rfl hh hh) ?_
 revert H;refine B2 fun y8 h9 H=>?_
 rcases y8 with y8 | pv5 <;> dsimp only at H
 refine Tc (aT _ _ h9).s ?_
 refine Z3 ?_
 exact Tm (()) (ij H)
 refine Tp (aT _ _ h9).pan ?_
 revert H;refine B2 fun r6 H e6=>?_
 cases e6;cases Hr3
 revert H;refine B3 fun r7 H e7=>?_
 cases e7;cases Hr2
 cases H
 exact bP
 refine Z3 ?_
 refine cY (⟨_,_,_,_,rfl,rfl,rfl,nu⟩) rfl rfl ?_
 refine cY (⟨_,_,_,_,rfl,rfl,rfl,nu⟩) rfl rfl ?_
 refine cY (⟨_,_,_,_,rfl,rfl,rfl,nu⟩) rfl rfl ?_
 refine cY (⟨_,_,_,_,rfl,rfl,rfl,nu⟩) rfl rfl ?_
 refine cY (⟨_,_,_,_,rfl,rfl,rfl,nu⟩) rfl rfl ?_
 refine cY (⟨_,_,_,_,rfl,rfl,rfl,nu⟩) rfl rfl ?_
 refine cY (⟨_,_,_,_,rfl,rfl,rfl,nu⟩) rfl rfl ?_
 refine cY (⟨_,_,_,_,rfl,rfl,rfl,nu⟩) rfl rfl ?_
 revert H;refine B2 fun y9 h10 H=>?_
 rcases y9 with y9 | pv6 <;> dsimp only at H
 refine Tc (aT _ _ h10).s ?_
 refine Z3 ?_
 exact Tm (()) (ij H)
 refine Tp (aT _ _ h10).pan ?_
 revert H;refine B2 fun r8 H e8=>?_
 cases e8;cases Hr3
 revert H;refine B3 fun r9 H e9=>?_
 cases e9;cases Hr2
 cases H
 exact bP
 clear H;intro i hi;subst o3;have H:=Hr3;clear Hr3;try dsimp only at H
 try dsimp only
 revert H;refine B1 fun z2 h11 H=>?_
 refine Z3 ?_
 exact Tm ((k1,z2)) ⟨H,ls⟩
 refine Z6 ?_
 exact Tm (()) (ij H)
 clear H;intro i hi;subst o2;have H:=Hr2;clear Hr2;try dsimp only at H
 try dsimp only
 refine aI ?_
 revert H;refine bs fun y10 h12 H=>?_
 revert H;refine bs fun y11 h13 H=>?_
 revert H;refine bs fun y12 h14 H=>?_
 apply bE (ods:=[_,_,_,_,_,_,_,_,_,_,_,_,_,_,_,_]) 16 4 5 bD rfl rfl rfl
 refine ND ?_
 refine M4 ?_
 intros
 refine Mn 1 (fun b2=> .slice (some ⟨b2,0,none⟩) y10.length y10.length) (fun b2=>aC (.slice (some ⟨b2,0,none⟩) y10.length y10.length) 3 tI y10) rfl (nW (t:=tI) (z:=0) rfl (has rfl) (et rfl) rfl sD rfl h12) (fun b2 u1=>?_)
 refine M3 ?_
 intros
 refine Mn 2 (fun b3=> .slice (some ⟨b3,0,none⟩) y11.length y11.length) (fun b3=>aC (.slice (some ⟨b3,0,none⟩) y11.length y11.length) 4 bF y11) rfl (nW (t:=bF) (z:=false) rfl (has rfl) (et rfl) rfl aAm rfl h13) (fun b3 u2=>?_)
 refine M3 ?_
 intros
 refine Mn 3 (fun b4=> .slice (some ⟨b4,0,none⟩) y12.length y12.length) (fun b4=>aC (.slice (some ⟨b4,0,none⟩) y12.length y12.length) 4 bF y12) rfl (nW (t:=bF) (z:=false) rfl (has rfl) (et rfl) rfl aAm rfl h14) (fun b4 u3=>?_)
 refine N_y (od:=od3 4 8 12 [] false (fun b2 _ b3 _ b4 _=>eY [fSl aE a0.Free,fSl aG a0.Nodes,fSl aB a0.Defs,fI a0.Main,fEq (.slice (some ⟨b2,0,none⟩) y10.length y10.length),fEq (.slice (some ⟨b3,0,none⟩) y11.length y11.length),fEq (.slice (some ⟨b4,0,none⟩) y12.length y12.length)]) (fun b2 _ b3 _ b4 _=>[])) (φ:=eY [fSl aE a0.Free,fSl aG a0.Nodes,fSl aB a0.Defs,fI a0.Main,fEq (.slice (some ⟨b2,0,none⟩) y10.length y10.length),fEq (.slice (some ⟨b3,0,none⟩) y11.length y11.length),fEq (.slice (some ⟨b4,0,none⟩) y12.length y12.length)]) rfl (fun _=>rfl) trivial rfl (fU (ψs:=[fSl aE a0.Free,fSl aG a0.Nodes,fSl aB a0.Defs,fI a0.Main,fEq (.slice (some ⟨b2,0,none⟩) y10.length y10.length),fEq (.slice (some ⟨b3,0,none⟩) y11.length y11.length),fEq (.slice (some ⟨b4,0,none⟩) y12.length y12.length)]) rfl aGE rfl (bH.cons (has rfl) bW (bH.cons (has rfl) (cC (aD trivial)) (bH.cons (has rfl) (cC (aD trivial)) (bH.cons (has rfl) (cC (aD trivial)) bH.nil)))) rfl) (fun _=>?_)
 refine N_new (od:=odN3 4 8 12 [4] true (fun b2 _ b3 _ b4 _ b5 _=>fEq (ptr b5)) (fun b2 _ b3 _ b4 _ b5 _=>[aA b5 174 [fSl aE a0.Free,fSl aG a0.Nodes,fSl aB a0.Defs,fI a0.Main,fEq (.slice (some ⟨b2,0,none⟩) y10.length y10.length),fEq (.slice (some ⟨b3,0,none⟩) y11.length y11.length),fEq (.slice (some ⟨b4,0,none⟩) y12.length y12.length)]])) (p:=4) (f:=fun b5=>ptr b5) (τ:=fun b5=>aA b5 174 [fSl aE a0.Free,fSl aG a0.Nodes,fSl aB a0.Defs,fI a0.Main,fEq (.slice (some ⟨b2,0,none⟩) y10.length y10.length),fEq (.slice (some ⟨b3,0,none⟩) y11.length y11.length),fEq (.slice (some ⟨b4,0,none⟩) y12.length y12.length)]) rfl (fun _=>rfl) (fun _=>rfl) trivial rfl rfl (cO rfl (has rfl) bW) (fun b5 u4=>?_)
 refine D1 14 b5 _ (fun b5 _=>fEq (ptr b5)) rfl (aAw rfl hh) (fun _=>?_)
 refine Z1 ?_
 generalize (Value.slice (some ⟨b2,0,none⟩) _ _)=v1
 refine aF 1 rfl (fun hc_v1=>?_)
 generalize (Value.slice (some ⟨b3,0,none⟩) _ _)=v2
 refine aF 2 rfl (fun hc_v2=>?_)
 generalize (Value.slice (some ⟨b4,0,none⟩) _ _)=v3
 refine aF 3 rfl (fun hc_v3=>?_)
 refine Z8 ?_
 refine bO ?_
 refine bO ?_
 refine bO ?_
 refine bB ?_
 refine wZ (x:=(⟨(⟨a0.Free,a0.Nodes,a0.Defs,a0.Main⟩:ScopeProg),y10,y11,y12⟩:Scope_looker)) ?_
 revert H;refine bs fun y13 h15 H=>?_
 rcases y13 with y13 | pv7 <;> dsimp only at H
 refine Tc (aC1 _ _ _ _ _ _ h15).s ?_
 refine vS (fun v4 v5 v6=>?_)
 refine aF 1 rfl (fun hc_v4=>?_)
 refine aF 2 rfl (fun hc_v5=>?_)
 refine aF 3 rfl (fun hc_v6=>?_)
 revert H;refine B1 fun o4 H Hr4=>?_
 refine aO (ι:=List Bool) (fun i=>o4=Sum.inl i) (fun i=>[(5,fEq (ptr b5))]) (fun i=>[aA b5 174 [fSl aE y13.p.Free,fSl aG y13.p.Nodes,fSl aB y13.p.Defs,fI y13.p.Main,fEq v4,fSl bF y13.met,fSl bF i],aA b1 37 [fSl aE a0.Free,fSl aG a0.Nodes,fSl aB a0.Defs,fI a0.Main],aC v4 3 tI y13.sizes]) ?_ ?_
 refine Z5 ?_
 refine aM ?_
 refine cJ (φ:=fSl bF y13.met) (v:=v5) [74] cW fz ?_
 refine fD (φs':=[fSl aE y13.p.Free,fSl aG y13.p.Nodes,fSl aB y13.p.Defs,fI y13.p.Main,fEq v4,fSl bF y13.met,fEq v6]) (i:=5) rfl rfl ?_
 refine cI ?_
 revert H;refine bs fun y14 h16 H=>?_
 refine Tc (aDU _ _ _ _ h16) ?_
 refine Z2 ?_
 revert H;refine cs (fun c6 H=>?_) fun c6 H=>?_
 refine Z4 ?_
 refine aM ?_
 refine cJ (φ:=fSl bF y13.defs) (v:=v6) [81] cW fz ?_
 refine fD (φs':=[fSl aE y13.p.Free,fSl aG y13.p.Nodes,fSl aB y13.p.Defs,fI y13.p.Main,fEq v4,fSl bF y13.met,fSl bF y13.defs]) (i:=6) rfl rfl ?_
 refine cI ?_
 revert H;refine bs fun y15 h17 H=>?_
 refine Tc (aDU _ _ _ _ h17) ?_
 revert H;refine B2 fun y16 h18 H=>?_
 rcases y16 with y16 | pv8 <;> dsimp only at H
 refine Tc (aT _ _ h18).s ?_
 refine Z1 ?_
 refine aH [0,2,1] (by decide) ?_
 exact Tm (y13.defs) (ij H)
 refine Tp (aT _ _ h18).pan ?_
 revert H;refine B1 fun r10 H e10=>?_
 cases e10;cases Hr4
 cases H
 exact bP
 revert H;refine B7 fun y17 h19 H=>?_
 rcases y17 with y17 | pv9 <;> dsimp only at H
 refine Tc (aT _ _ h19).s ?_
 refine Z1 ?_
 refine aM ?_
 refine cJ (φ:=fSl bF y13.defs) (v:=v6) [] cW (fun _ h=>nomatch h) ?_
 refine fD (φs':=[fSl aE y13.p.Free,fSl aG y13.p.Nodes,fSl aB y13.p.Defs,fI y13.p.Main,fEq v4,fSl bF y13.met,fSl bF y13.defs]) (i:=6) rfl rfl ?_
 refine cI ?_
 refine aH [0,2,1] (by decide) ?_
 exact Tm (y13.defs) (ij H)
 refine Tp (aT _ _ h19).pan ?_
 revert H;refine B1 fun r11 H e11=>?_
 cases e11;cases Hr4
 cases H
 exact bP
 clear H;intro x3 hi;subst o4;have H:=Hr4;clear Hr4;try dsimp only at H
 try dsimp only
 refine Z5 ?_
 refine aM ?_
 refine cJ (φ:=fSl tI y13.sizes) (v:=v4) [] cW (fun _ h=>nomatch h) ?_
 refine fD (φs':=[fSl aE y13.p.Free,fSl aG y13.p.Nodes,fSl aB y13.p.Defs,fI y13.p.Main,fSl tI y13.sizes,fSl bF y13.met,fSl bF x3]) (i:=4) rfl rfl ?_
 refine cI ?_
 refine cJ (φ:=bG mJ (⟨(⟨y13.p.Free,y13.p.Nodes,y13.p.Defs,y13.p.Main⟩:ScopeProg),y13.sizes,y13.met,x3⟩:Scope_looker)) (v:=ptr b5) [5,86,2] (kG aP.rfl) fz ?_
 refine cI ?_
 cases H
 refine qP ?_
 refine aH [] (by decide) ?_
 exact To
 refine Tp (aC1 _ _ _ _ _ _ h15).pan ?_
 refine Z1 ?_
 cases H
 exact bP
 exact fk
 kernel_rfl
def wW (fuel:Nat) (a0:ScopeProg) (a1:Scope_looker → Option (List Int)):Option ((List Int) × Int):=
 (yJ fuel (⟨a0.Free,a0.Nodes,a0.Defs,a0.Main⟩:ScopeProg)).bind fun y1=>
 match y1 with
 | Sum.inr pv1=>(unI 240 pv1).bind fun e1=>some ([],e1)
 | Sum.inl y1=>
 (a1 y1).bind fun y2=>
 some (y2,0)
theorem aIz (fuel:Nat)  (a0:ScopeProg) (a1:Scope_looker → Option (List Int)) (r:(List Int) × Int) (H:wW fuel a0 a1=some r):FnS Tryz.prog 124 [fSt fJ a0,fFn Tryz.prog (fun (x:Scope_looker)=>[bG mJ x]) (fun (r:List Int)=>fSl tI r) a1] [] (dG [fSl tI r.1,fI r.2]) (fun _=>[]):=by
 unfold wW at H
 refine FnS_ofM Tryz.func124 rfl Tryz.ntmps124 rfl (fun β=>?_)
 refine Z1 ?_
 refine Tn (cO rfl hh bW) fun b1=>?_
 refine Z1 ?_
 refine Tn (cV rfl ty_ze_29 rfl) fun b2=>?_
 refine Z2 ?_
 refine T_defer trivial rfl rfl (iX.cons (has rfl) iX.nil) ?_
 revert H;refine B4 fun y1 h1 H=>?_
 rcases y1 with y1 | pv1 <;> dsimp only at H
 refine Tc (aEO _ _ _ h1).s ?_
 revert H;refine bs fun y2 h2 H=>?_
 refine aDL y1 trivial rfl rfl rfl (has rfl) (aL.cons (has rfl) aL.nil) h2 ?_
 refine Z1 ?_
 refine cR (φs':=[fI 0]) trivial rfl rfl (has rfl) (has rfl) (aD trivial) (sz rfl) rfl rfl ?_
 refine Z2 ?_
 cases H
 refine aH [0] (by decide) ?_
 exact aFN (T_outD (u:= .returning) (by simp) rfl (bA rfl) rfl (sc rfl) (cb rfl) (aF9 b2 0) rfl rfl)
 refine Tp (aEO _ _ _ h1).pan ?_
 refine Z1 ?_
 have H0:=H;clear H;obtain⟨e1,h3,H⟩:=bind_some H0;clear H0;have hv_e1:=unI_some h3;subst hv_e1
 cases H
 refine aH [0] (by decide) ?_
 exact aIA (T_outD (u:= .panicking [{ v:= .iface 240 (.agg #[.int .i64 e1]),recovered:=false }]) (by simp) rfl (jV rfl gA) rfl (sc rfl) (cb rfl) (aIB b2 0 e1) rfl rfl)
def lR (a0:Scope_looker) (w0:ScopeProg) (w1:Scope_looker × Int → Option Int):Nat → (List Int) → Int → Option (List Int)
| 0,_,_=>none
| k+1,x4,x5=>
 if x5<(w0.Nodes.length:Int)then
  (w1 (a0,x5)).bind fun y1=>
  (dP (x4++[y1])).bind fun z1=>
  (chk (x5+1)).bind fun z2=>
  lR a0 w0 w1 k z1 z2
 else
  some x4
def xC (fuel:Nat) (a0:Scope_looker) (w0:ScopeProg) (w1:Scope_looker × Int → Option Int):Option (List Int):=
 (lR a0 w0 w1 fuel [] 0).bind fun x1=>
 some x1
theorem aHc (fuel:Nat)  (a0:Scope_looker) (w0:ScopeProg) (w1:Scope_looker × Int → Option Int) (r:List Int) (H:xC fuel a0 w0 w1=some r):FnS Tryz.prog 125 [bG mJ a0,bG fJ w0,bG (tFn Tryz.prog (fun (x:Scope_looker × Int)=>[bG mJ x.1,fI x.2]) (fun (r:Int)=>fI r)) w1] [] (fSl tI r) (fun _=>[]):=by
 unfold xC at H
 refine bS Tryz.func125 rfl Tryz.ntmps125 rfl (fun β=>?_)
 revert H;refine B6 fun o1 H Hr1=>?_
 refine aO (ι:=List Int × Value) (fun i=>o1=i.1) (fun i=>[(5,fEq i.2)]) (fun i=>[aC i.2 3 tI i.1]) ?_ ?_
 refine Z7 ?_
 refine hO tI 3 ?_
 refine Tl (ι:=Nat × List Int × Int × Value) (fun i=>lR a0 w0 w1 i.1 i.2.1 i.2.2.1=_) (fun i=>i.1) (fun i=>[(0,bG mJ a0),(2,bG (tFn Tryz.prog (fun (x:Scope_looker × Int)=>[bG mJ x.1,fI x.2]) (fun (r:Int)=>fI r)) w1),(5,fEq i.2.2.2),(9,fI (w0.Nodes.length:Int)),(10,fI i.2.2.1)]) (fun i=>[aC i.2.2.2 3 tI i.2.1]) (fuel,[],0,(.slice none 0 0)) H ?_
 clear H;rintro⟨k1,x4,x5,v3⟩ H
 replace H:lR a0 w0 w1 k1 x4 x5=_:=H
 try dsimp only
 obtain _ | k1:=k1
 rw [lR]at H;cases H
 rw [lR]at H
 refine aF 0 rfl (fun hc_v3=>?_)
 refine Z3 ?_
 refine aI ?_
 revert H;refine is (fun c1 H=>?_) fun c1 H=>?_
 refine Z3 ?_
 refine aI ?_
 revert H;refine B10 fun y1 h1 H=>?_
 refine aDL (a0,x5) trivial rfl rfl rfl (has rfl) (aL.cons (has rfl) (aL.cons (has rfl) aL.nil)) h1 ?_
 refine Tn (fV (t:=tI) (xs:=[y1]) rfl (et rfl) (bT.cons rfl (has rfl) (cC (aD trivial)) bT.nil) rfl rfl rfl) fun b1=>?_
 generalize (Value.slice (some ⟨b1,0,none⟩) _ _)=v4
 refine aF 0 rfl (fun hc_v4=>?_)
 revert H;refine bs fun z1 h2 H=>?_
 refine kH trivial rfl rfl rfl (has rfl) (has rfl) (et rfl) rfl h2 (fun v5=>?_)
 refine aF 0 rfl (fun hc_v5=>?_)
 revert H;refine B5 fun z2 h3 H=>?_
 refine Z3 ?_
 exact Tm ((k1,z1,z2,v5)) ⟨H,ls⟩
 refine Z6 ?_
 exact Tm ((x4,v3)) (ij H)
 clear H;intro i hi;obtain⟨x1,v1⟩:=i;subst o1;have H:=Hr1;clear Hr1;try dsimp only at H
 try dsimp only
 refine aF 0 rfl (fun hc_v1=>?_)
 refine Z5 ?_
 refine cJ (φ:=fSl tI x1) (v:=v1) [5,21,4] cW fz ?_
 refine cI ?_
 cases H
 exact To
def yE (fuel:Nat) (a0:ScopeProg) (a1:Scope_looker × Int → Option Int):Option ((List Int) × Int):=
 (wW fuel (⟨a0.Free,a0.Nodes,a0.Defs,a0.Main⟩:ScopeProg) (fun x=>xC fuel x (⟨a0.Free,a0.Nodes,a0.Defs,a0.Main⟩:ScopeProg) a1)).bind fun y1=>
 some (y1.1,y1.2)
theorem aFU (fuel:Nat)  (a0:ScopeProg) (a1:Scope_looker × Int → Option Int) (r:(List Int) × Int) (H:yE fuel a0 a1=some r):FnS Tryz.prog 82 [fSt fJ a0,fFn Tryz.prog (fun (x:Scope_looker × Int)=>[bG mJ x.1,fI x.2]) (fun (r:Int)=>fI r) a1] [] (dG [fSl tI r.1,fI r.2]) (fun _=>[]):=by
 unfold yE at H
 refine bS Tryz.func82 rfl Tryz.ntmps82 rfl (fun β=>?_)
 refine Z1 ?_
 refine Tn (cO rfl hh bW) fun b1=>?_
 refine Tn (cO rfl (has rfl) (cC (aES))) fun b2=>?_
 refine Z5 ?_
 refine bZ ?_
 refine cJ (φ:=bG fJ (⟨a0.Free,a0.Nodes,a0.Defs,a0.Main⟩:ScopeProg)) (v:=ptr b1) [2] (kG aP.rfl) fz ?_
 refine cI ?_
 refine cJ (φ:=bG (tFn Tryz.prog (fun (x:Scope_looker × Int)=>[bG mJ x.1,fI x.2]) (fun (r:Int)=>fI r)) a1) (v:=ptr b2) [3] (kG aP.rfl) fz ?_
 refine cI ?_
 refine Yy (o_clo rfl (aL.cons hh (aL.cons hh aL.nil))) ?_
 revert H;refine bs fun y1 h1 H=>?_
 refine jT trivial rfl rfl rfl hh (aL.cons hh (aL.cons (iK rfl (ent_fn (cb rfl) (fun x r hx=>aHc fuel x (⟨a0.Free,a0.Nodes,a0.Defs,a0.Main⟩:ScopeProg) a1 r hx))) aL.nil)) rfl (cb rfl) (aIz fuel (⟨a0.Free,a0.Nodes,a0.Defs,a0.Main⟩:ScopeProg) (fun x=>xC fuel x (⟨a0.Free,a0.Nodes,a0.Defs,a0.Main⟩:ScopeProg) a1) y1 h1) rfl ?_
 refine Z6 ?_
 cases H
 exact kA rfl (bA rfl) (bA rfl) rfl
def rG (a0:Scope_looker) (a1:Int):Option (Int):=
 (idx a0.sizes a1).bind fun y1=>
 some y1
theorem aH5  (a0:Scope_looker) (a1:Int) (r:Int) (H:rG a0 a1=some r):FnS Tryz.prog 83 [bG mJ a0,fI a1] [] (fI r) (fun _=>[]):=by
 unfold rG at H
 refine bS Tryz.func83 rfl Tryz.ntmps83 rfl (fun β=>?_)
 revert H;refine B9 fun y1 h1 H=>?_
 refine Z5 ?_
 cases H
 exact To
def sE (fuel:Nat) (a0:ScopeProg):Option ((List Int) × Int):=
 (yE fuel (⟨a0.Free,a0.Nodes,a0.Defs,a0.Main⟩:ScopeProg) (fun x=>rG x.1 x.2)).bind fun y1=>
 some (y1.1,y1.2)
theorem aG6 (fuel:Nat)  (a0:ScopeProg) (r:(List Int) × Int) (H:sE fuel a0=some r):FnS Tryz.prog 35 [fSt fJ a0] [] (dG [fSl tI r.1,fI r.2]) (fun _=>[]):=by
 unfold sE at H
 refine bS Tryz.func35 rfl Tryz.ntmps35 rfl (fun β=>?_)
 refine Z1 ?_
 refine Tn (cO rfl hh bW) fun b1=>?_
 revert H;refine B5 fun y1 h1 H=>?_
 refine jT trivial rfl rfl rfl hh (aL.cons hh (aL.cons (iK rfl (ent_fn0 (cb rfl) (fun (x:Scope_looker × Int) r hx=>aH5 x.1 x.2 r hx))) aL.nil)) rfl (cb rfl) (aFU fuel (⟨a0.Free,a0.Nodes,a0.Defs,a0.Main⟩:ScopeProg) (fun x=>rG x.1 x.2) y1 h1) rfl ?_
 refine Z6 ?_
 cases H
 refine aH [] (by decide) ?_
 exact kA rfl (bA rfl) (bA rfl) rfl
def nU (y1:ScopeDef):Nat → (List Int) → Int → Option (List Int)
| 0,_,_=>none
| k+1,x10,x11=>
 if x11<(y1.Rules.length:Int)then
  (idx y1.Rules x11).bind fun y2=>
  (dP (x10++[y2.Node])).bind fun z1=>
  (chk (x11+1)).bind fun z2=>
  nU y1 k z1 z2
 else
  some x10
def nF (y1:ScopeDef):Nat → (List Int) → Int → Option (List Int)
| 0,_,_=>none
| k+1,x14,x15=>
 if x15<(y1.Spots.length:Int)then
  (idx y1.Spots x15).bind fun y3=>
  (dP (x14++[y3.Node])).bind fun z3=>
  (chk (x15+1)).bind fun z4=>
  nF y1 k z3 z4
 else
  some x14
def nQ (fuel:Nat) (a0:ScopeProg):Nat → (List Int) → Int → Option (List Int)
| 0,_,_=>none
| k+1,x4,x5=>
 if x5<(a0.Defs.length:Int)then
  ((idx a0.Defs x5).bind fun y1=>
  (nU y1 fuel x4 0).bind fun x7=>
  nF y1 fuel x7 0).bind fun x6=>
  (chk (x5+1)).bind fun z5=>
  nQ fuel a0 k x6 z5
 else
  some x4
def mZ (a0:ScopeProg):Nat → (List Int) → Int → Option (List Int)
| 0,_,_=>none
| k+1,x19,x20=>
 if x20<(a0.Nodes.length:Int)then
  ((idx a0.Nodes x20).bind fun y4=>
  if y4.Op=6 then
   (idx y4.Kids 0).bind fun y5=>
   (dP (x19++[y5])).bind fun z6=>
   some z6
  else
   if y4.Op=8 then
    (idx y4.Kids 0).bind fun y6=>
    (dP (x19++[y6])).bind fun z7=>
    some z7
   else
    some x19).bind fun x21=>
  (chk (x20+1)).bind fun z8=>
  mZ a0 k x21 z8
 else
  some x19
def vP (fuel:Nat) (a0:ScopeProg):Option (List Int):=
 (nQ fuel a0 fuel [a0.Main] 0).bind fun x1=>
 (mZ a0 fuel x1 0).bind fun x16=>
 (aDJ x16).bind fun y7=>
 some y7
theorem aGg (fuel:Nat)  (a0:ScopeProg) (r:List Int) (H:vP fuel a0=some r):FnS Tryz.prog 36 [fSt fJ a0] [] (fSl tI r) (fun _=>[]):=by
 unfold vP at H
 refine bS Tryz.func36 rfl Tryz.ntmps36 rfl (fun β=>?_)
 refine Z1 ?_
 refine Tn (cO rfl hh bW) fun b1=>?_
 refine Z5 ?_
 refine Tn (fV (t:=tI) (xs:=[a0.Main]) rfl (et rfl) (bT.cons rfl (has rfl) (cC (aD trivial)) bT.nil) rfl rfl rfl) fun b2=>?_
 generalize (Value.slice (some ⟨b2,0,none⟩) _ _)=v1
 refine aF 0 rfl (fun hc_v1=>?_)
 revert H;refine B2 fun o1 H Hr1=>?_
 refine aO (ι:=List Int × Value) (fun i=>o1=i.1) (fun i=>[(1,fEq (ptr b1)),(3,fEq i.2)]) (fun i=>[aA b1 37 [fSl aE a0.Free,fSl aG a0.Nodes,fSl aB a0.Defs,fI a0.Main],aC i.2 3 tI i.1]) ?_ ?_
 refine Z7 ?_
 refine aH [1,0] (by decide) ?_
 refine Tl (ι:=Nat × List Int × Int × Value) (fun i=>nQ fuel a0 i.1 i.2.1 i.2.2.1=_) (fun i=>i.1) (fun i=>[(1,fEq (ptr b1)),(3,fEq i.2.2.2),(16,fSl aB a0.Defs),(17,fI (a0.Defs.length:Int)),(18,fI i.2.2.1)]) (fun i=>[aA b1 37 [fSl aE a0.Free,fSl aG a0.Nodes,fSl aB a0.Defs,fI a0.Main],aC i.2.2.2 3 tI i.2.1]) (fuel,[a0.Main],0,v1) H ?_
 clear H;rintro⟨k1,x4,x5,v4⟩ H
 replace H:nQ fuel a0 k1 x4 x5=_:=H
 try dsimp only
 obtain _ | k1:=k1
 rw [nQ]at H;cases H
 rw [nQ]at H
 refine aF 1 rfl (fun hc_v4=>?_)
 refine Z3 ?_
 refine aI ?_
 revert H;refine is (fun c1 H=>?_) fun c1 H=>?_
 revert H;refine B3 fun o2 H Hr2=>?_
 refine aO (ι:=List Int × Value) (fun i=>o2=i.1) (fun i=>[(1,fEq (ptr b1)),(3,fEq i.2),(16,fSl aB a0.Defs),(17,fI (a0.Defs.length:Int)),(18,fI x5)]) (fun i=>[aA b1 37 [fSl aE a0.Free,fSl aG a0.Nodes,fSl aB a0.Defs,fI a0.Main],aC i.2 3 tI i.1]) ?_ ?_
 revert H;refine B2 fun y1 h1 H=>?_
 refine Z2 ?_
 refine Tn (cV rfl vR rfl) fun b3=>?_
 refine dR (φs':=[fSl aS y1.Chans,fSl aY y1.Spots,fSl aZ y1.Rules]) trivial rfl rfl (has rfl) (has rfl) (aK (bU) (aK (bU) (aK (bU) bY))) (sz rfl) rfl rfl rfl ?_
 revert H;refine B1 fun o3 H Hr3=>?_
 refine aO (ι:=List Int × Value) (fun i=>o3=i.1) (fun i=>[(1,fEq (ptr b1)),(3,fEq i.2),(16,fSl aB a0.Defs),(17,fI (a0.Defs.length:Int)),(18,fI x5),(5,fEq (ptr b3))]) (fun i=>[aA b3 63 [fSl aS y1.Chans,fSl aY y1.Spots,fSl aZ y1.Rules],aA b1 37 [fSl aE a0.Free,fSl aG a0.Nodes,fSl aB a0.Defs,fI a0.Main],aC i.2 3 tI i.1]) ?_ ?_
 refine Z7 ?_
 refine Tl (ι:=Nat × List Int × Int × Value) (fun i=>nU y1 i.1 i.2.1 i.2.2.1=_) (fun i=>i.1) (fun i=>[(1,fEq (ptr b1)),(3,fEq i.2.2.2),(16,fSl aB a0.Defs),(17,fI (a0.Defs.length:Int)),(18,fI x5),(5,fEq (ptr b3)),(23,fSl aZ y1.Rules),(24,fI (y1.Rules.length:Int)),(25,fI i.2.2.1)]) (fun i=>[aA b3 63 [fSl aS y1.Chans,fSl aY y1.Spots,fSl aZ y1.Rules],aA b1 37 [fSl aE a0.Free,fSl aG a0.Nodes,fSl aB a0.Defs,fI a0.Main],aC i.2.2.2 3 tI i.2.1]) (fuel,x4,0,v4) H ?_
 clear H;rintro⟨k2,x10,x11,v8⟩ H
 replace H:nU y1 k2 x10 x11=_:=H
 try dsimp only
 obtain _ | k2:=k2
 rw [nU]at H;cases H
 rw [nU]at H
 refine aF 2 rfl (fun hc_v8=>?_)
 refine Z3 ?_
 refine aI ?_
 revert H;refine is (fun c2 H=>?_) fun c2 H=>?_
 refine Z3 ?_
 refine aI ?_
 revert H;refine B2 fun y2 h2 H=>?_
 refine Z2 ?_
 refine Tn (cV rfl pY rfl) fun b4=>?_
 refine dR (φs':=[fI y2.At,fSl tI y2.Joins,fI y2.Node]) trivial rfl rfl (has rfl) (has rfl) (aK (aD trivial) (aK (bU) (aK (aD trivial) bY))) (sz rfl) rfl rfl rfl ?_
 refine Z5 ?_
 refine Tn (fV (t:=tI) (xs:=[y2.Node]) rfl (et rfl) (bT.cons rfl (has rfl) (cC (aD trivial)) bT.nil) rfl rfl rfl) fun b5=>?_
 generalize (Value.slice (some ⟨b5,0,none⟩) _ _)=v9
 refine aF 0 rfl (fun hc_v9=>?_)
 revert H;refine bs fun z1 h3 H=>?_
 refine bB ?_
 refine bZ ?_
 refine kH trivial rfl rfl rfl (has rfl) (has rfl) (et rfl) rfl h3 (fun v10=>?_)
 refine aF 0 rfl (fun hc_v10=>?_)
 revert H;refine B5 fun z2 h4 H=>?_
 refine Z3 ?_
 refine aH [2,3,0] (by decide) ?_
 exact Tm ((k2,z1,z2,v10)) ⟨H,ls⟩
 refine Z6 ?_
 exact Tm ((x10,v8)) (ij H)
 clear H;intro i hi;obtain⟨x7,v6⟩:=i;subst o3;have H:=Hr3;clear Hr3;try dsimp only at H
 try dsimp only
 refine aF 2 rfl (fun hc_v6=>?_)
 refine Z7 ?_
 refine Tl (ι:=Nat × List Int × Int × Value) (fun i=>nF y1 i.1 i.2.1 i.2.2.1=_) (fun i=>i.1) (fun i=>[(1,fEq (ptr b1)),(3,fEq i.2.2.2),(16,fSl aB a0.Defs),(17,fI (a0.Defs.length:Int)),(18,fI x5),(36,fSl aY y1.Spots),(37,fI (y1.Spots.length:Int)),(38,fI i.2.2.1)]) (fun i=>[aA b3 63 [fSl aS y1.Chans,fSl aY y1.Spots,fSl aZ y1.Rules],aA b1 37 [fSl aE a0.Free,fSl aG a0.Nodes,fSl aB a0.Defs,fI a0.Main],aC i.2.2.2 3 tI i.2.1]) (fuel,x7,0,v6) H ?_
 clear H;rintro⟨k3,x14,x15,v12⟩ H
 replace H:nF y1 k3 x14 x15=_:=H
 try dsimp only
 obtain _ | k3:=k3
 rw [nF]at H;cases H
 rw [nF]at H
 refine aF 2 rfl (fun hc_v12=>?_)
 refine Z3 ?_
 refine aI ?_
 revert H;refine is (fun c3 H=>?_) fun c3 H=>?_
 refine Z3 ?_
 refine aI ?_
 revert H;refine B2 fun y3 h5 H=>?_
 refine Z2 ?_
 refine Tn (cV rfl zF rfl) fun b6=>?_
 refine dR (φs':=[fI y3.In,fI y3.Node]) trivial rfl rfl (has rfl) (has rfl) (aK (aD trivial) (aK (aD trivial) bY)) (sz rfl) rfl rfl rfl ?_
 refine Z5 ?_
 refine Tn (fV (t:=tI) (xs:=[y3.Node]) rfl (et rfl) (bT.cons rfl (has rfl) (cC (aD trivial)) bT.nil) rfl rfl rfl) fun b7=>?_
 generalize (Value.slice (some ⟨b7,0,none⟩) _ _)=v13
 refine aF 0 rfl (fun hc_v13=>?_)
 revert H;refine bs fun z3 h6 H=>?_
 refine bB ?_
 refine bZ ?_
 refine kH trivial rfl rfl rfl (has rfl) (has rfl) (et rfl) rfl h6 (fun v14=>?_)
 refine aF 0 rfl (fun hc_v14=>?_)
 revert H;refine B5 fun z4 h7 H=>?_
 refine Z3 ?_
 refine aH [2,3,0] (by decide) ?_
 exact Tm ((k3,z3,z4,v14)) ⟨H,ls⟩
 refine Z7 ?_
 refine aH [1,2] (by decide) ?_
 exact Tm ((x14,v12)) (ij H)
 clear H;intro i hi;obtain⟨x6,v5⟩:=i;subst o2;have H:=Hr2;clear Hr2;try dsimp only at H
 try dsimp only
 refine aF 1 rfl (fun hc_v5=>?_)
 revert H;refine B1 fun z5 h8 H=>?_
 refine Z3 ?_
 exact Tm ((k1,x6,z5,v5)) ⟨H,ls⟩
 refine Z6 ?_
 exact Tm ((x4,v4)) (ij H)
 clear H;intro i hi;obtain⟨x1,v2⟩:=i;subst o1;have H:=Hr1;clear Hr1;try dsimp only at H
 try dsimp only
 refine aF 1 rfl (fun hc_v2=>?_)
 revert H;refine bs fun o4 H Hr4=>?_
 refine aO (ι:=List Int × Value) (fun i=>o4=i.1) (fun i=>[(3,fEq i.2)]) (fun i=>[aA b1 37 [fSl aE a0.Free,fSl aG a0.Nodes,fSl aB a0.Defs,fI a0.Main],aC i.2 3 tI i.1]) ?_ ?_
 refine Z7 ?_
 refine Tl (ι:=Nat × List Int × Int × Value) (fun i=>mZ a0 i.1 i.2.1 i.2.2.1=_) (fun i=>i.1) (fun i=>[(3,fEq i.2.2.2),(50,fSl aG a0.Nodes),(51,fI (a0.Nodes.length:Int)),(52,fI i.2.2.1)]) (fun i=>[aA b1 37 [fSl aE a0.Free,fSl aG a0.Nodes,fSl aB a0.Defs,fI a0.Main],aC i.2.2.2 3 tI i.2.1]) (fuel,x1,0,v2) H ?_
 clear H;rintro⟨k4,x19,x20,v17⟩ H
 replace H:mZ a0 k4 x19 x20=_:=H
 try dsimp only
 obtain _ | k4:=k4
 rw [mZ]at H;cases H
 rw [mZ]at H
 refine aF 1 rfl (fun hc_v17=>?_)
 refine Z3 ?_
 refine aI ?_
 revert H;refine is (fun c4 H=>?_) fun c4 H=>?_
 revert H;refine B3 fun o5 H Hr5=>?_
 refine aO (ι:=List Int × Value) (fun i=>o5=i.1) (fun i=>[(50,fSl aG a0.Nodes),(51,fI (a0.Nodes.length:Int)),(52,fI x20),(3,fEq i.2)]) (fun i=>[aA b1 37 [fSl aE a0.Free,fSl aG a0.Nodes,fSl aB a0.Defs,fI a0.Main],aC i.2 3 tI i.1]) ?_ ?_
 revert H;refine B2 fun y4 h9 H=>?_
 refine Z2 ?_
 refine Tn (cV rfl tE rfl) fun b8=>?_
 refine dR (φs':=[fI y4.Op,fI y4.N,fSl cF y4.Args,fSl tI y4.Kids]) trivial rfl rfl (has rfl) (has rfl) (aK (aD trivial) (aK (aD trivial) (aK (bU) (aK (bU) bY)))) (sz rfl) rfl rfl rfl ?_
 revert H;refine I6 (fun c5 H=>?_) fun c5 H=>?_
 revert H;refine B10 fun y5 h10 H=>?_
 refine Z2 ?_
 refine Tn (fV (t:=tI) (xs:=[y5]) rfl (et rfl) (bT.cons rfl (has rfl) (cC (aD trivial)) bT.nil) rfl rfl rfl) fun b9=>?_
 generalize (Value.slice (some ⟨b9,0,none⟩) _ _)=v19
 refine aF 0 rfl (fun hc_v19=>?_)
 revert H;refine bs fun z6 h11 H=>?_
 refine bO ?_
 refine bZ ?_
 refine kH trivial rfl rfl rfl (has rfl) (has rfl) (et rfl) rfl h11 (fun v20=>?_)
 refine aF 0 rfl (fun hc_v20=>?_)
 refine Z4 ?_
 refine aH [2,0] (by decide) ?_
 exact Tm ((z6,v20)) (ij H)
 revert H;refine I5 (fun c6 H=>?_) fun c6 H=>?_
 revert H;refine B5 fun y6 h12 H=>?_
 refine Z2 ?_
 refine Tn (fV (t:=tI) (xs:=[y6]) rfl (et rfl) (bT.cons rfl (has rfl) (cC (aD trivial)) bT.nil) rfl rfl rfl) fun b10=>?_
 generalize (Value.slice (some ⟨b10,0,none⟩) _ _)=v21
 refine aF 0 rfl (fun hc_v21=>?_)
 revert H;refine bs fun z7 h13 H=>?_
 refine bO ?_
 refine bZ ?_
 refine kH trivial rfl rfl rfl (has rfl) (has rfl) (et rfl) rfl h13 (fun v22=>?_)
 refine aF 0 rfl (fun hc_v22=>?_)
 refine Z4 ?_
 refine aH [2,0] (by decide) ?_
 exact Tm ((z7,v22)) (ij H)
 refine Z4 ?_
 refine aH [1,2] (by decide) ?_
 exact Tm ((x19,v17)) (ij H)
 clear H;intro i hi;obtain⟨x21,v18⟩:=i;subst o5;have H:=Hr5;clear Hr5;try dsimp only at H
 try dsimp only
 refine aF 1 rfl (fun hc_v18=>?_)
 revert H;refine B1 fun z8 h14 H=>?_
 refine Z3 ?_
 exact Tm ((k4,x21,z8,v18)) ⟨H,ls⟩
 refine Z6 ?_
 exact Tm ((x19,v17)) (ij H)
 clear H;intro i hi;obtain⟨x16,v15⟩:=i;subst o4;have H:=Hr4;clear Hr4;try dsimp only at H
 try dsimp only
 refine aF 1 rfl (fun hc_v15=>?_)
 refine Z2 ?_
 refine bZ ?_
 revert H;refine bs fun y7 h15 H=>?_
 refine Tc (aGT _ _ _ h15) ?_
 refine Z6 ?_
 refine cJ (φ:=fSl tI y7) (v:=v15) [3,72,74,2] cW fz ?_
 refine cI ?_
 cases H
 refine aH [] (by decide) ?_
 exact To
def gX (a0:Code_compiler) (a1:Int) (a2:Int) (a3:Int):Option (Code_compiler):=
 (dP (a0.tape.code++[(⟨a1,a2,a3⟩:CodeIns)])).bind fun z1=>
 some (⟨(⟨z1⟩:aW),(⟨a0.p.Free,a0.p.Nodes,a0.p.Defs,a0.p.Main⟩:ScopeProg),a0.sizes,a0.starts⟩:Code_compiler)
theorem kV (p0:Nat) (a0:Code_compiler) (a1:Int) (a2:Int) (a3:Int) (r:Code_compiler) (H:gX a0 a1 a2 a3=some r):FnS Tryz.prog 38 [fEq (.pointer (some ⟨p0,0,none⟩)),fI a1,fI a2,fI a3] [gG p0 a0] (dG []) (fun _=>[gG p0 r]):=by
 unfold gX at H
 refine bS Tryz.func38 rfl Tryz.ntmps38 rfl (fun β=>?_)
 refine dH (fun v1 v2=>?_)
 refine aM ?_
 refine dI (fun b1 h1=>?_);subst h1
 refine aF 2 rfl (fun hc_v1=>?_)
 refine Z9 ?_
 refine Yy (fU (ψs:=[fI a1,fI a2,fI a3]) rfl zY rfl (bH.cons (has rfl) (cC (aD trivial)) (bH.cons (has rfl) (cC (aD trivial)) (bH.cons (has rfl) (cC (aD trivial)) bH.nil))) rfl) ?_
 refine Tn (fV (t:=aQ) (xs:=[(⟨a1,a2,a3⟩:CodeIns)]) rfl (et rfl) (bT.cons rfl hh bW bT.nil) rfl rfl rfl) fun b2=>?_
 generalize (Value.slice (some ⟨b2,0,none⟩) _ _)=v3
 refine aF 0 rfl (fun hc_v3=>?_)
 revert H;refine bs fun z1 h2 H=>?_
 refine bO ?_
 refine bZ ?_
 refine kH trivial rfl rfl rfl (has rfl) (has rfl) (et rfl) rfl h2 (fun v4=>?_)
 refine aF 0 rfl (fun hc_v4=>?_)
 refine Z2 ?_
 refine aM ?_
 refine cR (φs':=[fEq v4,fSl aE a0.p.Free,fSl aG a0.p.Nodes,fSl aB a0.p.Defs,fI a0.p.Main,fSl tI a0.sizes,fEq (.map (some b1))]) trivial rfl rfl (has rfl) (has rfl) (aD hc_v4) (sz rfl) rfl rfl ?_
 refine Z1 ?_
 refine aM ?_
 refine cN ?_
 refine aM ?_
 refine aM ?_
 refine cK (x:=(⟨(⟨z1⟩:aW),(⟨a0.p.Free,a0.p.Nodes,a0.p.Defs,a0.p.Main⟩:ScopeProg),a0.sizes,a0.starts⟩:Code_compiler)) ?_
 cases H
 exact dC (.inr rfl) rfl rfl
def zK (a0:Int):Option (Int):=
 (chk (a0 - 3)).bind fun z1=>
 (chk (3+z1)).bind fun z2=>
 some z2
theorem aHZ  (a0:Int) (r:Int) (H:zK a0=some r):FnS Tryz.prog 128 [fI a0] [] (fI r) (fun _=>[]):=by
 unfold zK at H
 refine bS Tryz.func128 rfl Tryz.ntmps128 rfl (fun β=>?_)
 revert H;refine B5 fun z1 h1 H=>?_
 revert H;refine B1 fun z2 h2 H=>?_
 refine Z4 ?_
 cases H
 exact To
open Go.SX Go.SW Go.Dt
def mY:Nat → Code_compiler → ScopeExp → Option (Code_compiler)
| 0,_,_=>none
| fuel+1,a0,a1=>
 if a1.Op=1 then
  (gX (⟨(⟨a0.tape.code⟩:aW),(⟨a0.p.Free,a0.p.Nodes,a0.p.Defs,a0.p.Main⟩:ScopeProg),a0.sizes,a0.starts⟩:Code_compiler) 1 a1.N 0).bind fun y1=>
  some (⟨(⟨y1.tape.code⟩:aW),(⟨y1.p.Free,y1.p.Nodes,y1.p.Defs,y1.p.Main⟩:ScopeProg),y1.sizes,y1.starts⟩:Code_compiler)
 else
  if a1.Op=2 then
   (gX (⟨(⟨a0.tape.code⟩:aW),(⟨a0.p.Free,a0.p.Nodes,a0.p.Defs,a0.p.Main⟩:ScopeProg),a0.sizes,a0.starts⟩:Code_compiler) 2 a1.N 0).bind fun y2=>
   some (⟨(⟨y2.tape.code⟩:aW),(⟨y2.p.Free,y2.p.Nodes,y2.p.Defs,y2.p.Main⟩:ScopeProg),y2.sizes,y2.starts⟩:Code_compiler)
  else
   (idx a1.Kids 0).bind fun y3=>
   ((mY fuel) (⟨(⟨a0.tape.code⟩:aW),(⟨a0.p.Free,a0.p.Nodes,a0.p.Defs,a0.p.Main⟩:ScopeProg),a0.sizes,a0.starts⟩:Code_compiler) y3).bind fun y4=>
   (idx a1.Kids 1).bind fun y5=>
   ((mY fuel) (⟨(⟨y4.tape.code⟩:aW),(⟨y4.p.Free,y4.p.Nodes,y4.p.Defs,y4.p.Main⟩:ScopeProg),y4.sizes,y4.starts⟩:Code_compiler) y5).bind fun y6=>
   (zK a1.Op).bind fun y7=>
   (gX (⟨(⟨y6.tape.code⟩:aW),(⟨y6.p.Free,y6.p.Nodes,y6.p.Defs,y6.p.Main⟩:ScopeProg),y6.sizes,y6.starts⟩:Code_compiler) y7 0 0).bind fun y8=>
   some (⟨(⟨y8.tape.code⟩:aW),(⟨y8.p.Free,y8.p.Nodes,y8.p.Defs,y8.p.Main⟩:ScopeProg),y8.sizes,y8.starts⟩:Code_compiler)
theorem aDx:∀ (fuel:Nat),(∀ (p0:Nat) (a0:Code_compiler) (a1:ScopeExp) (r:Code_compiler) (H:mY fuel a0 a1=some r),FnS Tryz.prog 85 [fEq (.pointer (some ⟨p0,0,none⟩)),fSt cF a1] [gG p0 a0] (dG []) (fun _=>[gG p0 r])):=by
 intro fuel
 induction fuel with
 | zero=>exact fun p0 a0 a1 r H=>(by rw [mY]at H;cases H)
 | succ fuel ih=>
 have ih_code_compiler_exp:=@ih
 refine ?_
 intro p0 a0 a1 r H
 rw [mY]at H
 refine bS Tryz.func85 rfl Tryz.ntmps85 rfl (fun β=>?_)
 refine dH (fun v1 v2=>?_)
 refine aM ?_
 refine dI (fun b1 h1=>?_);subst h1
 refine aF 2 rfl (fun hc_v1=>?_)
 refine Z1 ?_
 refine Tn (cO rfl hh bW) fun b2=>?_
 revert H;refine I10 (fun c1 H=>?_) fun c1 H=>?_
 refine Z1 ?_
 apply bE (ods:=[_,_,_,_,_]) 5 0 4 bD rfl rfl rfl
 refine ND ?_
 refine M5 ?_
 intros
 refine Z1 ?_
 refine bZ ?_
 refine cN ?_
 refine bO ?_
 refine bO ?_
 refine cK (x:=(⟨(⟨a0.tape.code⟩:aW),(⟨a0.p.Free,a0.p.Nodes,a0.p.Defs,a0.p.Main⟩:ScopeProg),a0.sizes,a0.starts⟩:Code_compiler)) ?_
 revert H;refine bs fun y1 h2 H=>?_
 refine Tc (kV _ _ _ _ _ _ h2) ?_
 refine dH (fun v3 v4=>?_)
 refine aM ?_
 refine dI (fun b3 h3=>?_);subst h3
 refine aF 2 rfl (fun hc_v3=>?_)
 refine Z2 ?_
 refine cN ?_
 refine aM ?_
 refine aM ?_
 refine cK (x:=(⟨(⟨y1.tape.code⟩:aW),(⟨y1.p.Free,y1.p.Nodes,y1.p.Defs,y1.p.Main⟩:ScopeProg),y1.sizes,y1.starts⟩:Code_compiler)) ?_
 cases H
 refine aH [0] (by decide) ?_
 exact dC (.inr rfl) rfl rfl
 exact fk
 kernel_rfl
 revert H;refine I5 (fun c2 H=>?_) fun c2 H=>?_
 refine Z1 ?_
 apply bE (ods:=[_,_,_,_,_]) 5 0 4 bD rfl rfl rfl
 refine ND ?_
 refine M5 ?_
 intros
 refine Z1 ?_
 refine bZ ?_
 refine cN ?_
 refine bO ?_
 refine bO ?_
 refine cK (x:=(⟨(⟨a0.tape.code⟩:aW),(⟨a0.p.Free,a0.p.Nodes,a0.p.Defs,a0.p.Main⟩:ScopeProg),a0.sizes,a0.starts⟩:Code_compiler)) ?_
 revert H;refine bs fun y2 h4 H=>?_
 refine Tc (kV _ _ _ _ _ _ h4) ?_
 refine dH (fun v5 v6=>?_)
 refine aM ?_
 refine dI (fun b4 h5=>?_);subst h5
 refine aF 2 rfl (fun hc_v5=>?_)
 refine Z2 ?_
 refine cN ?_
 refine aM ?_
 refine aM ?_
 refine cK (x:=(⟨(⟨y2.tape.code⟩:aW),(⟨y2.p.Free,y2.p.Nodes,y2.p.Defs,y2.p.Main⟩:ScopeProg),y2.sizes,y2.starts⟩:Code_compiler)) ?_
 cases H
 refine aH [0] (by decide) ?_
 exact dC (.inr rfl) rfl rfl
 exact fk
 kernel_rfl
 refine Z4 ?_
 refine Yo 0 rfl (bK rfl hh (sc rfl) rfl (gL gF)) ?_
 revert H;refine bs fun y3 h6 H=>?_
 refine Z2 ?_
 refine bZ ?_
 refine cN ?_
 refine bO ?_
 refine bO ?_
 refine cK (x:=(⟨(⟨a0.tape.code⟩:aW),(⟨a0.p.Free,a0.p.Nodes,a0.p.Defs,a0.p.Main⟩:ScopeProg),a0.sizes,a0.starts⟩:Code_compiler)) ?_
 revert H;refine bs fun y4 h7 H=>?_
 refine Tc (ih_code_compiler_exp _ _ _ _ h7) ?_
 refine dH (fun v7 v8=>?_)
 refine aM ?_
 refine dI (fun b5 h8=>?_);subst h8
 refine aF 2 rfl (fun hc_v7=>?_)
 refine Z4 ?_
 refine Yo 3 rfl (bK rfl hh (sc rfl) rfl (gL gF)) ?_
 revert H;refine bs fun y5 h9 H=>?_
 refine Z2 ?_
 refine cN ?_
 refine aM ?_
 refine aM ?_
 refine cK (x:=(⟨(⟨y4.tape.code⟩:aW),(⟨y4.p.Free,y4.p.Nodes,y4.p.Defs,y4.p.Main⟩:ScopeProg),y4.sizes,y4.starts⟩:Code_compiler)) ?_
 revert H;refine bs fun y6 h10 H=>?_
 refine Tc (ih_code_compiler_exp _ _ _ _ h10) ?_
 refine dH (fun v9 v10=>?_)
 refine aM ?_
 refine dI (fun b6 h11=>?_);subst h11
 refine aF 2 rfl (fun hc_v9=>?_)
 revert H;refine B1 fun y7 h12 H=>?_
 apply bE (ods:=[_,_,_,_,_,_]) 6 0 4 bD rfl rfl rfl
 refine ND ?_
 refine M5 ?_
 intros
 refine Nc (aHZ _ _ h12) fun _=>?_
 refine Z1 ?_
 refine cN ?_
 refine aM ?_
 refine aM ?_
 refine cK (x:=(⟨(⟨y6.tape.code⟩:aW),(⟨y6.p.Free,y6.p.Nodes,y6.p.Defs,y6.p.Main⟩:ScopeProg),y6.sizes,y6.starts⟩:Code_compiler)) ?_
 revert H;refine bs fun y8 h13 H=>?_
 refine Tc (kV _ _ _ _ _ _ h13) ?_
 refine dH (fun v11 v12=>?_)
 refine aM ?_
 refine dI (fun b7 h14=>?_);subst h14
 refine aF 2 rfl (fun hc_v11=>?_)
 refine Z2 ?_
 refine cN ?_
 refine aM ?_
 refine aM ?_
 refine cK (x:=(⟨(⟨y8.tape.code⟩:aW),(⟨y8.p.Free,y8.p.Nodes,y8.p.Defs,y8.p.Main⟩:ScopeProg),y8.sizes,y8.starts⟩:Code_compiler)) ?_
 cases H
 refine aH [0] (by decide) ?_
 exact dC (.inr rfl) rfl rfl
 exact fk
 kernel_rfl
def jN:Nat → Code_compiler → Int → Option (Code_compiler × Bool)
| 0,_,_=>none
| fuel+1,a0,a1=>
 (idx a0.p.Nodes a1).bind fun y1=>
 (if y1.Op=4 then
  some (true,a0.tape.code,a0.p.Free,a0.p.Nodes,a0.p.Defs,a0.p.Main,a0.sizes,a0.starts)
 else
  if y1.Op=3 then
   (idx y1.Kids 1).bind fun y2=>
   ((jN fuel) (⟨(⟨a0.tape.code⟩:aW),(⟨a0.p.Free,a0.p.Nodes,a0.p.Defs,a0.p.Main⟩:ScopeProg),a0.sizes,a0.starts⟩:Code_compiler) y2).bind fun y3=>
   some (y3.2,y3.1.tape.code,y3.1.p.Free,y3.1.p.Nodes,y3.1.p.Defs,y3.1.p.Main,y3.1.sizes,y3.1.starts)
  else
   some (false,a0.tape.code,a0.p.Free,a0.p.Nodes,a0.p.Defs,a0.p.Main,a0.sizes,a0.starts)).bind fun (x1,x2,x3,x4,x5,x6,x7,x8)=>
 some ((⟨(⟨x2⟩:aW),(⟨x3,x4,x5,x6⟩:ScopeProg),x7,x8⟩:Code_compiler),x1)
theorem aIx:∀ (fuel:Nat),(∀ (p0:Nat) (a0:Code_compiler) (a1:Int) (r:Code_compiler × Bool) (H:jN fuel a0 a1=some r),FnS Tryz.prog 129 [fEq (.pointer (some ⟨p0,0,none⟩)),fI a1] [gG p0 a0] (aJ r.2) (fun _=>[gG p0 r.1])):=by
 intro fuel
 induction fuel with
 | zero=>exact fun p0 a0 a1 r H=>(by rw [jN]at H;cases H)
 | succ fuel ih=>
 have ih_code_compiler_grows:=@ih
 refine ?_
 intro p0 a0 a1 r H
 rw [jN]at H
 refine bS Tryz.func129 rfl Tryz.ntmps129 rfl (fun β=>?_)
 refine dH (fun v1 v2=>?_)
 refine aM ?_
 refine dI (fun b1 h1=>?_);subst h1
 refine aF 2 rfl (fun hc_v1=>?_)
 revert H;refine B10 fun y1 h2 H=>?_
 refine Z2 ?_
 refine Tn (cV rfl tE rfl) fun b2=>?_
 refine dR (φs':=[fI y1.Op,fI y1.N,fSl cF y1.Args,fSl tI y1.Kids]) trivial rfl rfl (has rfl) (has rfl) (aK (aD trivial) (aK (aD trivial) (aK (bU) (aK (bU) bY)))) (sz rfl) rfl rfl rfl ?_
 revert H;refine B1 fun o1 H Hr1=>?_
 refine aO (ι:=Bool × List CodeIns × List ByteArray × List ScopeNode × List ScopeDef × Int × List Int × aN Int Int × Value × Nat) (fun i=>o1=(i.1,i.2.1,i.2.2.1,i.2.2.2.1,i.2.2.2.2.1,i.2.2.2.2.2.1,i.2.2.2.2.2.2.1,i.2.2.2.2.2.2.2.1)) (fun i=>[(0,fEq (ptr p0)),(4,aJ i.1)]) (fun i=>[aA b2 140 [fI y1.Op,fI y1.N,fSl cF y1.Args,fSl tI y1.Kids],aA p0 103 [fEq i.2.2.2.2.2.2.2.2.1,fSl aE i.2.2.1,fSl aG i.2.2.2.1,fSl aB i.2.2.2.2.1,fI i.2.2.2.2.2.1,fSl tI i.2.2.2.2.2.2.1,fEq (.map (some i.2.2.2.2.2.2.2.2.2))],dY eJ (fun y=>fI y) i.2.2.2.2.2.2.2.2.2 i.2.2.2.2.2.2.2.1,aC i.2.2.2.2.2.2.2.2.1 73 aQ i.2.1]) ?_ ?_
 revert H;refine I5 (fun c1 H=>?_) fun c1 H=>?_
 refine Z4 ?_
 refine cY (⟨_,_,_,_,rfl,rfl,rfl,nu⟩) rfl rfl ?_
 refine cY (⟨_,_,_,_,rfl,rfl,rfl,nu⟩) rfl rfl ?_
 refine cY (⟨_,_,_,_,rfl,rfl,rfl,nu⟩) rfl rfl ?_
 refine cY (⟨_,_,_,_,rfl,rfl,rfl,nu⟩) rfl rfl ?_
 refine cY (⟨_,_,_,_,rfl,rfl,rfl,nu⟩) rfl rfl ?_
 refine cY (⟨_,_,_,_,rfl,rfl,rfl,nu⟩) rfl rfl ?_
 refine Z4 ?_
 refine aH [0,2,1,3] (by decide) ?_
 exact Tm ((true,a0.tape.code,a0.p.Free,a0.p.Nodes,a0.p.Defs,a0.p.Main,a0.sizes,a0.starts,v1,b1)) (ij H)
 revert H;refine I4 (fun c2 H=>?_) fun c2 H=>?_
 revert H;refine B3 fun y2 h3 H=>?_
 refine Z2 ?_
 refine bZ ?_
 refine cN ?_
 refine bO ?_
 refine bO ?_
 refine cK (x:=(⟨(⟨a0.tape.code⟩:aW),(⟨a0.p.Free,a0.p.Nodes,a0.p.Defs,a0.p.Main⟩:ScopeProg),a0.sizes,a0.starts⟩:Code_compiler)) ?_
 revert H;refine bs fun y3 h4 H=>?_
 refine Tc (ih_code_compiler_grows _ _ _ _ h4) ?_
 refine dH (fun v4 v5=>?_)
 refine aM ?_
 refine dI (fun b4 h5=>?_);subst h5
 refine aF 2 rfl (fun hc_v4=>?_)
 refine Z4 ?_
 refine aH [3,1,0,2] (by decide) ?_
 exact Tm ((y3.2,y3.1.tape.code,y3.1.p.Free,y3.1.p.Nodes,y3.1.p.Defs,y3.1.p.Main,y3.1.sizes,y3.1.starts,v4,b4)) (ij H)
 refine Z10 ?_
 refine aH [0,2,1,3] (by decide) ?_
 exact Tm ((false,a0.tape.code,a0.p.Free,a0.p.Nodes,a0.p.Defs,a0.p.Main,a0.sizes,a0.starts,v1,b1)) (ij H)
 clear H;intro i hi;obtain⟨x1,x2,x3,x4,x5,x6,x7,x8,v3,b3⟩:=i;subst o1;have H:=Hr1;clear Hr1;try dsimp only at H
 try dsimp only
 refine aF 3 rfl (fun hc_v3=>?_)
 refine Z1 ?_
 refine aM ?_
 refine cN ?_
 refine bO ?_
 refine bO ?_
 refine cK (x:=(⟨(⟨x2⟩:aW),(⟨x3,x4,x5,x6⟩:ScopeProg),x7,x8⟩:Code_compiler)) ?_
 cases H
 refine aH [0] (by decide) ?_
 exact To
def sP (w0:Code_compiler) (w1:Int):Option (Code_compiler):=
 (idx w0.tape.code w1).bind fun y1=>
 some (⟨(⟨w0.tape.code.set w1.toNat ({ y1 with A:=(w0.tape.code.length:Int) })⟩:aW),(⟨w0.p.Free,w0.p.Nodes,w0.p.Defs,w0.p.Main⟩:ScopeProg),w0.sizes,w0.starts⟩:Code_compiler)
theorem aE2 (q0:Nat) (w0:Code_compiler) (w1:Int) (r:Code_compiler) (H:sP w0 w1=some r):FnS Tryz.prog 130 [bG tRaw (.pointer (some ⟨q0,0,none⟩)),bG tI w1] [gG q0 w0] (dG []) (fun _=>[gG q0 r]):=by
 unfold sP at H
 refine bS Tryz.func130 rfl Tryz.ntmps130 rfl (fun β=>?_)
 refine dH (fun v1 v2=>?_)
 refine aM ?_
 refine dI (fun b1 h1=>?_);subst h1
 refine aF 2 rfl (fun hc_v1=>?_)
 revert H;refine bs fun y1 h2 H=>?_
 apply bE (ods:=[_,_,_,_,_,_,_,_,_,_,_,_,_]) 13 0 3 bD rfl rfl rfl
 refine ND ?_
 refine My (aDu rfl hh (sc rfl) rfl fH) fun _=>?_
 refine M4 ?_
 intros
 refine My (aDu rfl hh (sc rfl) rfl fH) fun _=>?_
 refine M5 ?_
 intros
 refine My (gS 1 rfl hh (fa rfl) rfl) fun _=>?_
 refine lP (od:=odC [2] true (dN) [aC v1 73 aQ (w0.tape.code.set w1.toNat ({ y1 with A:=(w0.tape.code.length:Int) }))]) (p:=2) (z':={ y1 with A:=(w0.tape.code.length:Int) }) rfl (fun _=>rfl) (fun _=>rfl) trivial rfl rfl rfl rfl (has rfl) (has rfl) (aD trivial) (sz rfl) (cB h2) rfl rfl (fun _=>?_)
 refine Z2 ?_
 refine cN ?_
 refine aM ?_
 refine aM ?_
 refine cK (x:=(⟨(⟨w0.tape.code.set w1.toNat ({ y1 with A:=(w0.tape.code.length:Int) })⟩:aW),(⟨w0.p.Free,w0.p.Nodes,w0.p.Defs,w0.p.Main⟩:ScopeProg),w0.sizes,w0.starts⟩:Code_compiler)) ?_
 cases H
 exact dC (.inr rfl) rfl rfl
 exact fk
 kernel_rfl
def tD (a0:Code_compiler) (a1:Int):Option (Code_compiler × Int):=
 (gX (⟨(⟨a0.tape.code⟩:aW),(⟨a0.p.Free,a0.p.Nodes,a0.p.Defs,a0.p.Main⟩:ScopeProg),a0.sizes,a0.starts⟩:Code_compiler) a1 0 0).bind fun y1=>
 some ((⟨(⟨y1.tape.code⟩:aW),(⟨y1.p.Free,y1.p.Nodes,y1.p.Defs,y1.p.Main⟩:ScopeProg),y1.sizes,y1.starts⟩:Code_compiler),(a0.tape.code.length:Int))
theorem aCY (p0:Nat) (a0:Code_compiler) (a1:Int) (r:Code_compiler × Int) (H:tD a0 a1=some r):FnS Tryz.prog 87 [fEq (.pointer (some ⟨p0,0,none⟩)),fI a1] [gG p0 a0] (fB 130 [bG tRaw (.pointer (some ⟨p0,0,none⟩)),bG tI r.2]) (fun _=>[gG p0 r.1]):=by
 unfold tD at H
 refine bS Tryz.func87 rfl Tryz.ntmps87 rfl (fun β=>?_)
 refine dH (fun v1 v2=>?_)
 refine aM ?_
 refine dI (fun b1 h1=>?_);subst h1
 refine aF 2 rfl (fun hc_v1=>?_)
 refine Z1 ?_
 refine Tn (cO rfl (has rfl) (cC (aD trivial))) fun b2=>?_
 refine Z8 ?_
 refine Tn (cV rfl sD rfl) fun b3=>?_
 refine cR (φs':=[fI (a0.tape.code.length:Int)]) trivial rfl rfl (has rfl) (has rfl) (aD trivial) (sz rfl) rfl rfl ?_
 refine Z4 ?_
 refine aM ?_
 refine cN ?_
 refine bB ?_
 refine bB ?_
 refine cK (x:=(⟨(⟨a0.tape.code⟩:aW),(⟨a0.p.Free,a0.p.Nodes,a0.p.Defs,a0.p.Main⟩:ScopeProg),a0.sizes,a0.starts⟩:Code_compiler)) ?_
 revert H;refine bs fun y1 h2 H=>?_
 refine Tc (kV _ _ _ _ _ _ h2) ?_
 refine dH (fun v3 v4=>?_)
 refine aM ?_
 refine dI (fun b4 h3=>?_);subst h3
 refine aF 2 rfl (fun hc_v3=>?_)
 refine Z2 ?_
 refine bB ?_
 refine cJ (φ:=bG tRaw (ptr p0)) (v:=ptr b2) [2] (kG (aP.cons (qS trivial) aP.nil)) fz ?_
 refine cI ?_
 refine bO ?_
 refine cJ (φ:=bG tI (a0.tape.code.length:Int)) (v:=ptr b3) [5] (kG aP.rfl) fz ?_
 refine cI ?_
 refine Yy (o_clo rfl (aL.cons hh (aL.cons hh aL.nil))) ?_
 refine Z3 ?_
 refine cN ?_
 refine aM ?_
 refine aM ?_
 refine cK (x:=(⟨(⟨y1.tape.code⟩:aW),(⟨y1.p.Free,y1.p.Nodes,y1.p.Defs,y1.p.Main⟩:ScopeProg),y1.sizes,y1.starts⟩:Code_compiler)) ?_
 cases H
 exact To
def nO (fuel:Nat) (y1:ScopeNode):Nat → Int → (List CodeIns) → (List ByteArray) → (List ScopeNode) → (List ScopeDef) → Int → (List Int) → (aN Int Int) → Option (List CodeIns × List ByteArray × List ScopeNode × List ScopeDef × Int × List Int × aN Int Int)
| 0,_,_,_,_,_,_,_,_=>none
| k+1,x16,x17,x18,x19,x20,x21,x22,x23=>
 if x16<(y1.Args.length:Int)then
  (idx y1.Args x16).bind fun y2=>
  (mY fuel (⟨(⟨x17⟩:aW),(⟨x18,x19,x20,x21⟩:ScopeProg),x22,x23⟩:Code_compiler) (⟨y2.Op,y2.N,y2.Kids⟩:ScopeExp)).bind fun y3=>
  (chk (x16+1)).bind fun z1=>
  nO fuel y1 k z1 y3.tape.code y3.p.Free y3.p.Nodes y3.p.Defs y3.p.Main y3.sizes y3.starts
 else
  some (x17,x18,x19,x20,x21,x22,x23)
mutual
def gJ:Nat → Code_compiler → Int → Option (Code_compiler)
| 0,_,_=>none
| fuel+1,a0,a1=>
 (idx a0.p.Nodes a1).bind fun y1=>
 if y1.Op=2 then
  (nO fuel y1 fuel 0 a0.tape.code a0.p.Free a0.p.Nodes a0.p.Defs a0.p.Main a0.sizes a0.starts).bind fun (x1,x2,x3,x4,x5,x6,x7)=>
  (gX (⟨(⟨x1⟩:aW),(⟨x2,x3,x4,x5⟩:ScopeProg),x6,x7⟩:Code_compiler) 8 y1.N (y1.Args.length:Int)).bind fun y4=>
  some (⟨(⟨y4.tape.code⟩:aW),(⟨y4.p.Free,y4.p.Nodes,y4.p.Defs,y4.p.Main⟩:ScopeProg),y4.sizes,y4.starts⟩:Code_compiler)
 else
  if y1.Op=3 then
   (idx y1.Kids 0).bind fun y5=>
   (idx a0.sizes a1).bind fun y6=>
   ((qN fuel) (⟨(⟨a0.tape.code⟩:aW),(⟨a0.p.Free,a0.p.Nodes,a0.p.Defs,a0.p.Main⟩:ScopeProg),a0.sizes,a0.starts⟩:Code_compiler) y5 y6).bind fun y7=>
   (idx y1.Kids 1).bind fun y8=>
   ((gJ fuel) (⟨(⟨y7.tape.code⟩:aW),(⟨y7.p.Free,y7.p.Nodes,y7.p.Defs,y7.p.Main⟩:ScopeProg),y7.sizes,y7.starts⟩:Code_compiler) y8).bind fun y9=>
   some (⟨(⟨y9.tape.code⟩:aW),(⟨y9.p.Free,y9.p.Nodes,y9.p.Defs,y9.p.Main⟩:ScopeProg),y9.sizes,y9.starts⟩:Code_compiler)
  else
   if y1.Op=4 then
    (gX (⟨(⟨a0.tape.code⟩:aW),(⟨a0.p.Free,a0.p.Nodes,a0.p.Defs,a0.p.Main⟩:ScopeProg),a0.sizes,a0.starts⟩:Code_compiler) 11 y1.N 0).bind fun y10=>
    (idx y1.Kids 0).bind fun y11=>
    ((gJ fuel) (⟨(⟨y10.tape.code⟩:aW),(⟨y10.p.Free,y10.p.Nodes,y10.p.Defs,y10.p.Main⟩:ScopeProg),y10.sizes,y10.starts⟩:Code_compiler) y11).bind fun y12=>
    some (⟨(⟨y12.tape.code⟩:aW),(⟨y12.p.Free,y12.p.Nodes,y12.p.Defs,y12.p.Main⟩:ScopeProg),y12.sizes,y12.starts⟩:Code_compiler)
   else
    if y1.Op=5 then
     (idx y1.Args 0).bind fun y13=>
     (mY fuel (⟨(⟨a0.tape.code⟩:aW),(⟨a0.p.Free,a0.p.Nodes,a0.p.Defs,a0.p.Main⟩:ScopeProg),a0.sizes,a0.starts⟩:Code_compiler) y13).bind fun y14=>
     (tD (⟨(⟨y14.tape.code⟩:aW),(⟨y14.p.Free,y14.p.Nodes,y14.p.Defs,y14.p.Main⟩:ScopeProg),y14.sizes,y14.starts⟩:Code_compiler) 9).bind fun y15=>
     (idx y1.Kids 0).bind fun y16=>
     (idx y15.1.sizes a1).bind fun y17=>
     ((qN fuel) (⟨(⟨y15.1.tape.code⟩:aW),(⟨y15.1.p.Free,y15.1.p.Nodes,y15.1.p.Defs,y15.1.p.Main⟩:ScopeProg),y15.1.sizes,y15.1.starts⟩:Code_compiler) y16 y17).bind fun y18=>
     (tD (⟨(⟨y18.tape.code⟩:aW),(⟨y18.p.Free,y18.p.Nodes,y18.p.Defs,y18.p.Main⟩:ScopeProg),y18.sizes,y18.starts⟩:Code_compiler) 10).bind fun y19=>
     (sP (⟨(⟨y19.1.tape.code⟩:aW),(⟨y19.1.p.Free,y19.1.p.Nodes,y19.1.p.Defs,y19.1.p.Main⟩:ScopeProg),y19.1.sizes,y19.1.starts⟩:Code_compiler) y15.2).bind fun y20=>
     (idx y1.Kids 1).bind fun y21=>
     (idx y20.sizes a1).bind fun y22=>
     ((qN fuel) (⟨(⟨y20.tape.code⟩:aW),(⟨y20.p.Free,y20.p.Nodes,y20.p.Defs,y20.p.Main⟩:ScopeProg),y20.sizes,y20.starts⟩:Code_compiler) y21 y22).bind fun y23=>
     (sP (⟨(⟨y23.tape.code⟩:aW),(⟨y23.p.Free,y23.p.Nodes,y23.p.Defs,y23.p.Main⟩:ScopeProg),y23.sizes,y23.starts⟩:Code_compiler) y19.2).bind fun y24=>
     some (⟨(⟨y24.tape.code⟩:aW),(⟨y24.p.Free,y24.p.Nodes,y24.p.Defs,y24.p.Main⟩:ScopeProg),y24.sizes,y24.starts⟩:Code_compiler)
    else
     if y1.Op=6 then
      (idx y1.Kids 0).bind fun y25=>
      (gX (⟨(⟨a0.tape.code⟩:aW),(⟨a0.p.Free,a0.p.Nodes,a0.p.Defs,a0.p.Main⟩:ScopeProg),a0.sizes,a0.starts⟩:Code_compiler) 13 y1.N y25).bind fun y26=>
      some (⟨(⟨y26.tape.code⟩:aW),(⟨y26.p.Free,y26.p.Nodes,y26.p.Defs,y26.p.Main⟩:ScopeProg),y26.sizes,y26.starts⟩:Code_compiler)
     else
      if y1.Op=8 then
       (idx y1.Kids 0).bind fun y27=>
       (gX (⟨(⟨a0.tape.code⟩:aW),(⟨a0.p.Free,a0.p.Nodes,a0.p.Defs,a0.p.Main⟩:ScopeProg),a0.sizes,a0.starts⟩:Code_compiler) 15 y1.N y27).bind fun y28=>
       some (⟨(⟨y28.tape.code⟩:aW),(⟨y28.p.Free,y28.p.Nodes,y28.p.Defs,y28.p.Main⟩:ScopeProg),y28.sizes,y28.starts⟩:Code_compiler)
      else
       if y1.Op=7 then
        (gX (⟨(⟨a0.tape.code⟩:aW),(⟨a0.p.Free,a0.p.Nodes,a0.p.Defs,a0.p.Main⟩:ScopeProg),a0.sizes,a0.starts⟩:Code_compiler) 14 0 0).bind fun y29=>
        some (⟨(⟨y29.tape.code⟩:aW),(⟨y29.p.Free,y29.p.Nodes,y29.p.Defs,y29.p.Main⟩:ScopeProg),y29.sizes,y29.starts⟩:Code_compiler)
       else
        some (⟨(⟨a0.tape.code⟩:aW),(⟨a0.p.Free,a0.p.Nodes,a0.p.Defs,a0.p.Main⟩:ScopeProg),a0.sizes,a0.starts⟩:Code_compiler)
def qN:Nat → Code_compiler → Int → Int → Option (Code_compiler)
| 0,_,_,_=>none
| fuel+1,a0,a1,a2=>
 ((gJ fuel) (⟨(⟨a0.tape.code⟩:aW),(⟨a0.p.Free,a0.p.Nodes,a0.p.Defs,a0.p.Main⟩:ScopeProg),a0.sizes,a0.starts⟩:Code_compiler) a1).bind fun y1=>
 (jN fuel (⟨(⟨y1.tape.code⟩:aW),(⟨y1.p.Free,y1.p.Nodes,y1.p.Defs,y1.p.Main⟩:ScopeProg),y1.sizes,y1.starts⟩:Code_compiler) a1).bind fun y2=>
 bif y2.2 then
  (gX (⟨(⟨y2.1.tape.code⟩:aW),(⟨y2.1.p.Free,y2.1.p.Nodes,y2.1.p.Defs,y2.1.p.Main⟩:ScopeProg),y2.1.sizes,y2.1.starts⟩:Code_compiler) 12 a2 0).bind fun y3=>
  some (⟨(⟨y3.tape.code⟩:aW),(⟨y3.p.Free,y3.p.Nodes,y3.p.Defs,y3.p.Main⟩:ScopeProg),y3.sizes,y3.starts⟩:Code_compiler)
 else
  some (⟨(⟨y2.1.tape.code⟩:aW),(⟨y2.1.p.Free,y2.1.p.Nodes,y2.1.p.Defs,y2.1.p.Main⟩:ScopeProg),y2.1.sizes,y2.1.starts⟩:Code_compiler)
end
theorem aIc:∀ (fuel:Nat),(∀ (p0:Nat) (a0:Code_compiler) (a1:Int) (r:Code_compiler) (H:gJ fuel a0 a1=some r),FnS Tryz.prog 37 [fEq (.pointer (some ⟨p0,0,none⟩)),fI a1] [gG p0 a0] (dG []) (fun _=>[gG p0 r])) ∧ (∀ (p0:Nat) (a0:Code_compiler) (a1:Int) (a2:Int) (r:Code_compiler) (H:qN fuel a0 a1 a2=some r),FnS Tryz.prog 86 [fEq (.pointer (some ⟨p0,0,none⟩)),fI a1,fI a2] [gG p0 a0] (dG []) (fun _=>[gG p0 r])):=by
 intro fuel
 induction fuel with
 | zero=>exact⟨fun p0 a0 a1 r H=>(by rw [gJ]at H;cases H),fun p0 a0 a1 a2 r H=>(by rw [qN]at H;cases H)⟩
 | succ fuel ih=>
 obtain⟨ih_code_compiler_node,ih_code_compiler_kept⟩:=@ih
 refine⟨?_,?_⟩
 intro p0 a0 a1 r H
 rw [gJ]at H
 refine bS Tryz.func37 rfl Tryz.ntmps37 rfl (fun β=>?_)
 refine dH (fun v1 v2=>?_)
 refine aM ?_
 refine dI (fun b1 h1=>?_);subst h1
 refine aF 2 rfl (fun hc_v1=>?_)
 revert H;refine B7 fun y1 h2 H=>?_
 refine Z2 ?_
 refine Tn (cV rfl tE rfl) fun b2=>?_
 refine dR (φs':=[fI y1.Op,fI y1.N,fSl cF y1.Args,fSl tI y1.Kids]) trivial rfl rfl (has rfl) (has rfl) (aK (aD trivial) (aK (aD trivial) (aK (bU) (aK (bU) bY)))) (sz rfl) rfl rfl rfl ?_
 revert H;refine I10 (fun c1 H=>?_) fun c1 H=>?_
 revert H;refine B1 fun o1 H Hr1=>?_
 refine aO (ι:=List CodeIns × List ByteArray × List ScopeNode × List ScopeDef × Int × List Int × aN Int Int × Value × Nat) (fun i=>o1=(i.1,i.2.1,i.2.2.1,i.2.2.2.1,i.2.2.2.2.1,i.2.2.2.2.2.1,i.2.2.2.2.2.2.1)) (fun i=>[(0,fEq (ptr p0)),(4,fEq (ptr b2))]) (fun i=>[aA b2 140 [fI y1.Op,fI y1.N,fSl cF y1.Args,fSl tI y1.Kids],aA p0 103 [fEq i.2.2.2.2.2.2.2.1,fSl aE i.2.1,fSl aG i.2.2.1,fSl aB i.2.2.2.1,fI i.2.2.2.2.1,fSl tI i.2.2.2.2.2.1,fEq (.map (some i.2.2.2.2.2.2.2.2))],dY eJ (fun y=>fI y) i.2.2.2.2.2.2.2.2 i.2.2.2.2.2.2.1,aC i.2.2.2.2.2.2.2.1 73 aQ i.1]) ?_ ?_
 refine Z7 ?_
 refine aH [0,2,1,3] (by decide) ?_
 refine Tl (ι:=Nat × Int × List CodeIns × List ByteArray × List ScopeNode × List ScopeDef × Int × List Int × aN Int Int × Value × Nat) (fun i=>nO fuel y1 i.1 i.2.1 i.2.2.1 i.2.2.2.1 i.2.2.2.2.1 i.2.2.2.2.2.1 i.2.2.2.2.2.2.1 i.2.2.2.2.2.2.2.1 i.2.2.2.2.2.2.2.2.1=_) (fun i=>i.1) (fun i=>[(0,fEq (ptr p0)),(4,fEq (ptr b2)),(22,fSl cF y1.Args),(23,fI (y1.Args.length:Int)),(24,fI i.2.1)]) (fun i=>[aA b2 140 [fI y1.Op,fI y1.N,fSl cF y1.Args,fSl tI y1.Kids],aA p0 103 [fEq i.2.2.2.2.2.2.2.2.2.1,fSl aE i.2.2.2.1,fSl aG i.2.2.2.2.1,fSl aB i.2.2.2.2.2.1,fI i.2.2.2.2.2.2.1,fSl tI i.2.2.2.2.2.2.2.1,fEq (.map (some i.2.2.2.2.2.2.2.2.2.2))],dY eJ (fun y=>fI y) i.2.2.2.2.2.2.2.2.2.2 i.2.2.2.2.2.2.2.2.1,aC i.2.2.2.2.2.2.2.2.2.1 73 aQ i.2.2.1]) (fuel,0,a0.tape.code,a0.p.Free,a0.p.Nodes,a0.p.Defs,a0.p.Main,a0.sizes,a0.starts,v1,b1) H ?_
 clear H;rintro⟨k1,x16,x17,x18,x19,x20,x21,x22,x23,v5,b5⟩ H
 replace H:nO fuel y1 k1 x16 x17 x18 x19 x20 x21 x22 x23=_:=H
 try dsimp only
 obtain _ | k1:=k1
 rw [nO]at H;cases H
 rw [nO]at H
 refine aF 3 rfl (fun hc_v5=>?_)
 refine Z3 ?_
 refine aI ?_
 revert H;refine is (fun c2 H=>?_) fun c2 H=>?_
 refine Z3 ?_
 refine aI ?_
 revert H;refine B2 fun y2 h3 H=>?_
 refine Z2 ?_
 refine Tn (cV rfl aCi rfl) fun b6=>?_
 refine dR (φs':=[fI y2.Op,fI y2.N,fW y2.Kids]) trivial rfl rfl (has rfl) (has rfl) (aK (aD trivial) (aK (aD trivial) (aK (aAE) bY))) (sz rfl) rfl rfl rfl ?_
 refine Z4 ?_
 refine bO ?_
 refine cN ?_
 refine bB ?_
 refine bB ?_
 refine cK (x:=(⟨(⟨x17⟩:aW),(⟨x18,x19,x20,x21⟩:ScopeProg),x22,x23⟩:Code_compiler)) ?_
 revert H;refine bs fun y3 h4 H=>?_
 refine Tc (aDx _ _ _ _ _ h4) ?_
 refine dH (fun v6 v7=>?_)
 refine aM ?_
 refine dI (fun b7 h5=>?_);subst h5
 refine aF 2 rfl (fun hc_v6=>?_)
 revert H;refine B4 fun z1 h6 H=>?_
 refine Z3 ?_
 refine aH [4,1,0,2] (by decide) ?_
 exact Tm ((k1,z1,y3.tape.code,y3.p.Free,y3.p.Nodes,y3.p.Defs,y3.p.Main,y3.sizes,y3.starts,v6,b7)) ⟨H,ls⟩
 refine Z6 ?_
 exact Tm ((x17,x18,x19,x20,x21,x22,x23,v5,b5)) (ij H)
 clear H;intro i hi;obtain⟨x1,x2,x3,x4,x5,x6,x7,v3,b3⟩:=i;subst o1;have H:=Hr1;clear Hr1;try dsimp only at H
 try dsimp only
 refine aF 3 rfl (fun hc_v3=>?_)
 apply bE (ods:=[_,_,_,_,_,_,_,_]) 8 0 4 bD rfl rfl rfl
 refine ND ?_
 refine M8 ?_
 intros
 refine Z1 ?_
 refine aM ?_
 refine cN ?_
 refine bO ?_
 refine bO ?_
 refine cK (x:=(⟨(⟨x1⟩:aW),(⟨x2,x3,x4,x5⟩:ScopeProg),x6,x7⟩:Code_compiler)) ?_
 revert H;refine bs fun y4 h7 H=>?_
 refine Tc (kV _ _ _ _ _ _ h7) ?_
 refine dH (fun v8 v9=>?_)
 refine aM ?_
 refine dI (fun b8 h8=>?_);subst h8
 refine aF 2 rfl (fun hc_v8=>?_)
 refine Z2 ?_
 refine cN ?_
 refine aM ?_
 refine aM ?_
 refine cK (x:=(⟨(⟨y4.tape.code⟩:aW),(⟨y4.p.Free,y4.p.Nodes,y4.p.Defs,y4.p.Main⟩:ScopeProg),y4.sizes,y4.starts⟩:Code_compiler)) ?_
 cases H
 refine aH [0] (by decide) ?_
 exact dC (.inr rfl) rfl rfl
 exact fk
 kernel_rfl
 revert H;refine I5 (fun c3 H=>?_) fun c3 H=>?_
 refine Z1 ?_
 refine aI ?_
 revert H;refine bs fun y5 h9 H=>?_
 revert H;refine bs fun y6 h10 H=>?_
 apply bE (ods:=[_,_,_,_,_,_,_,_,_,_,_,_]) 12 0 4 bD rfl rfl rfl
 refine ND ?_
 refine M8 ?_
 intros
 refine M4 ?_
 intros
 refine Z1 ?_
 refine bZ ?_
 refine cN ?_
 refine bO ?_
 refine bO ?_
 refine cK (x:=(⟨(⟨a0.tape.code⟩:aW),(⟨a0.p.Free,a0.p.Nodes,a0.p.Defs,a0.p.Main⟩:ScopeProg),a0.sizes,a0.starts⟩:Code_compiler)) ?_
 revert H;refine bs fun y7 h11 H=>?_
 refine Tc (ih_code_compiler_kept _ _ _ _ _ h11) ?_
 refine dH (fun v10 v11=>?_)
 refine aM ?_
 refine dI (fun b9 h12=>?_);subst h12
 refine aF 2 rfl (fun hc_v10=>?_)
 revert H;refine B5 fun y8 h13 H=>?_
 refine Z2 ?_
 refine cN ?_
 refine aM ?_
 refine aM ?_
 refine cK (x:=(⟨(⟨y7.tape.code⟩:aW),(⟨y7.p.Free,y7.p.Nodes,y7.p.Defs,y7.p.Main⟩:ScopeProg),y7.sizes,y7.starts⟩:Code_compiler)) ?_
 revert H;refine bs fun y9 h14 H=>?_
 refine Tc (ih_code_compiler_node _ _ _ _ h14) ?_
 refine dH (fun v12 v13=>?_)
 refine aM ?_
 refine dI (fun b10 h15=>?_);subst h15
 refine aF 2 rfl (fun hc_v12=>?_)
 refine Z2 ?_
 refine cN ?_
 refine aM ?_
 refine aM ?_
 refine cK (x:=(⟨(⟨y9.tape.code⟩:aW),(⟨y9.p.Free,y9.p.Nodes,y9.p.Defs,y9.p.Main⟩:ScopeProg),y9.sizes,y9.starts⟩:Code_compiler)) ?_
 cases H
 refine aH [0] (by decide) ?_
 exact dC (.inr rfl) rfl rfl
 exact fk
 kernel_rfl
 revert H;refine I5 (fun c4 H=>?_) fun c4 H=>?_
 refine Z1 ?_
 refine aI ?_
 apply bE (ods:=[_,_,_,_,_]) 5 0 4 bD rfl rfl rfl
 refine ND ?_
 refine M5 ?_
 intros
 refine Z1 ?_
 refine bZ ?_
 refine cN ?_
 refine bO ?_
 refine bO ?_
 refine cK (x:=(⟨(⟨a0.tape.code⟩:aW),(⟨a0.p.Free,a0.p.Nodes,a0.p.Defs,a0.p.Main⟩:ScopeProg),a0.sizes,a0.starts⟩:Code_compiler)) ?_
 revert H;refine bs fun y10 h16 H=>?_
 refine Tc (kV _ _ _ _ _ _ h16) ?_
 refine dH (fun v14 v15=>?_)
 refine aM ?_
 refine dI (fun b11 h17=>?_);subst h17
 refine aF 2 rfl (fun hc_v14=>?_)
 revert H;refine B5 fun y11 h18 H=>?_
 refine Z2 ?_
 refine cN ?_
 refine aM ?_
 refine aM ?_
 refine cK (x:=(⟨(⟨y10.tape.code⟩:aW),(⟨y10.p.Free,y10.p.Nodes,y10.p.Defs,y10.p.Main⟩:ScopeProg),y10.sizes,y10.starts⟩:Code_compiler)) ?_
 revert H;refine bs fun y12 h19 H=>?_
 refine Tc (ih_code_compiler_node _ _ _ _ h19) ?_
 refine dH (fun v16 v17=>?_)
 refine aM ?_
 refine dI (fun b12 h20=>?_);subst h20
 refine aF 2 rfl (fun hc_v16=>?_)
 refine Z2 ?_
 refine cN ?_
 refine aM ?_
 refine aM ?_
 refine cK (x:=(⟨(⟨y12.tape.code⟩:aW),(⟨y12.p.Free,y12.p.Nodes,y12.p.Defs,y12.p.Main⟩:ScopeProg),y12.sizes,y12.starts⟩:Code_compiler)) ?_
 cases H
 refine aH [0] (by decide) ?_
 exact dC (.inr rfl) rfl rfl
 exact fk
 kernel_rfl
 revert H;refine I5 (fun c5 H=>?_) fun c5 H=>?_
 revert H;refine B5 fun y13 h21 H=>?_
 refine Z2 ?_
 refine bZ ?_
 refine cN ?_
 refine bO ?_
 refine bO ?_
 refine cK (x:=(⟨(⟨a0.tape.code⟩:aW),(⟨a0.p.Free,a0.p.Nodes,a0.p.Defs,a0.p.Main⟩:ScopeProg),a0.sizes,a0.starts⟩:Code_compiler)) ?_
 revert H;refine bs fun y14 h22 H=>?_
 refine Tc (aDx _ _ _ _ _ h22) ?_
 refine dH (fun v18 v19=>?_)
 refine aM ?_
 refine dI (fun b13 h23=>?_);subst h23
 refine aF 2 rfl (fun hc_v18=>?_)
 refine Z5 ?_
 refine cN ?_
 refine aM ?_
 refine aM ?_
 refine cK (x:=(⟨(⟨y14.tape.code⟩:aW),(⟨y14.p.Free,y14.p.Nodes,y14.p.Defs,y14.p.Main⟩:ScopeProg),y14.sizes,y14.starts⟩:Code_compiler)) ?_
 revert H;refine bs fun y15 h24 H=>?_
 refine Tc (aCY _ _ _ _ h24) ?_
 refine dH (fun v20 v21=>?_)
 refine aM ?_
 refine dI (fun b14 h25=>?_);subst h25
 refine aF 2 rfl (fun hc_v20=>?_)
 refine Z2 ?_
 refine aI ?_
 revert H;refine bs fun y16 h26 H=>?_
 revert H;refine bs fun y17 h27 H=>?_
 apply bE (ods:=[_,_,_,_,_,_,_,_,_,_,_,_]) 12 0 4 bD rfl rfl rfl
 refine ND ?_
 refine M8 ?_
 intros
 refine M4 ?_
 intros
 refine Z1 ?_
 refine cN ?_
 refine aM ?_
 refine aM ?_
 refine cK (x:=(⟨(⟨y15.1.tape.code⟩:aW),(⟨y15.1.p.Free,y15.1.p.Nodes,y15.1.p.Defs,y15.1.p.Main⟩:ScopeProg),y15.1.sizes,y15.1.starts⟩:Code_compiler)) ?_
 revert H;refine bs fun y18 h28 H=>?_
 refine Tc (ih_code_compiler_kept _ _ _ _ _ h28) ?_
 refine dH (fun v22 v23=>?_)
 refine aM ?_
 refine dI (fun b15 h29=>?_);subst h29
 refine aF 2 rfl (fun hc_v22=>?_)
 refine Z5 ?_
 refine cN ?_
 refine aM ?_
 refine aM ?_
 refine cK (x:=(⟨(⟨y18.tape.code⟩:aW),(⟨y18.p.Free,y18.p.Nodes,y18.p.Defs,y18.p.Main⟩:ScopeProg),y18.sizes,y18.starts⟩:Code_compiler)) ?_
 revert H;refine bs fun y19 h30 H=>?_
 refine Tc (aCY _ _ _ _ h30) ?_
 refine dH (fun v24 v25=>?_)
 refine aM ?_
 refine dI (fun b16 h31=>?_);subst h31
 refine aF 2 rfl (fun hc_v24=>?_)
 refine Z4 ?_
 refine cN ?_
 refine aM ?_
 refine aM ?_
 refine cK (x:=(⟨(⟨y19.1.tape.code⟩:aW),(⟨y19.1.p.Free,y19.1.p.Nodes,y19.1.p.Defs,y19.1.p.Main⟩:ScopeProg),y19.1.sizes,y19.1.starts⟩:Code_compiler)) ?_
 revert H;refine bs fun y20 h32 H=>?_
 refine sT trivial rfl rfl rfl (has rfl) aL.nil rfl (cb rfl) (aE2 p0 (⟨(⟨y19.1.tape.code⟩:aW),(⟨y19.1.p.Free,y19.1.p.Nodes,y19.1.p.Defs,y19.1.p.Main⟩:ScopeProg),y19.1.sizes,y19.1.starts⟩:Code_compiler) y15.2 y20 h32) rfl ?_
 refine dH (fun v26 v27=>?_)
 refine aM ?_
 refine dI (fun b17 h33=>?_);subst h33
 refine aF 2 rfl (fun hc_v26=>?_)
 refine Z1 ?_
 refine aI ?_
 revert H;refine bs fun y21 h34 H=>?_
 revert H;refine bs fun y22 h35 H=>?_
 apply bE (ods:=[_,_,_,_,_,_,_,_,_,_,_,_]) 12 0 4 bD rfl rfl rfl
 refine ND ?_
 refine M8 ?_
 intros
 refine M4 ?_
 intros
 refine Z1 ?_
 refine cN ?_
 refine aM ?_
 refine aM ?_
 refine cK (x:=(⟨(⟨y20.tape.code⟩:aW),(⟨y20.p.Free,y20.p.Nodes,y20.p.Defs,y20.p.Main⟩:ScopeProg),y20.sizes,y20.starts⟩:Code_compiler)) ?_
 revert H;refine bs fun y23 h36 H=>?_
 refine Tc (ih_code_compiler_kept _ _ _ _ _ h36) ?_
 refine dH (fun v28 v29=>?_)
 refine aM ?_
 refine dI (fun b18 h37=>?_);subst h37
 refine aF 2 rfl (fun hc_v28=>?_)
 refine Z3 ?_
 refine cN ?_
 refine aM ?_
 refine aM ?_
 refine cK (x:=(⟨(⟨y23.tape.code⟩:aW),(⟨y23.p.Free,y23.p.Nodes,y23.p.Defs,y23.p.Main⟩:ScopeProg),y23.sizes,y23.starts⟩:Code_compiler)) ?_
 revert H;refine bs fun y24 h38 H=>?_
 refine sT trivial rfl rfl rfl (has rfl) aL.nil rfl (cb rfl) (aE2 p0 (⟨(⟨y23.tape.code⟩:aW),(⟨y23.p.Free,y23.p.Nodes,y23.p.Defs,y23.p.Main⟩:ScopeProg),y23.sizes,y23.starts⟩:Code_compiler) y19.2 y24 h38) rfl ?_
 refine dH (fun v30 v31=>?_)
 refine aM ?_
 refine dI (fun b19 h39=>?_);subst h39
 refine aF 2 rfl (fun hc_v30=>?_)
 refine Z2 ?_
 refine cN ?_
 refine aM ?_
 refine aM ?_
 refine cK (x:=(⟨(⟨y24.tape.code⟩:aW),(⟨y24.p.Free,y24.p.Nodes,y24.p.Defs,y24.p.Main⟩:ScopeProg),y24.sizes,y24.starts⟩:Code_compiler)) ?_
 cases H
 refine aH [0] (by decide) ?_
 exact dC (.inr rfl) rfl rfl
 exact fk
 kernel_rfl
 exact fk
 kernel_rfl
 revert H;refine I5 (fun c6 H=>?_) fun c6 H=>?_
 revert H;refine B1 fun y25 h40 H=>?_
 apply bE (ods:=[_,_,_,_,_,_,_,_,_]) 9 0 4 bD rfl rfl rfl
 refine ND ?_
 refine M8 ?_
 intros
 refine M1 ?_
 intros
 refine Z1 ?_
 refine bZ ?_
 refine cN ?_
 refine bO ?_
 refine bO ?_
 refine cK (x:=(⟨(⟨a0.tape.code⟩:aW),(⟨a0.p.Free,a0.p.Nodes,a0.p.Defs,a0.p.Main⟩:ScopeProg),a0.sizes,a0.starts⟩:Code_compiler)) ?_
 revert H;refine bs fun y26 h41 H=>?_
 refine Tc (kV _ _ _ _ _ _ h41) ?_
 refine dH (fun v32 v33=>?_)
 refine aM ?_
 refine dI (fun b20 h42=>?_);subst h42
 refine aF 2 rfl (fun hc_v32=>?_)
 refine Z2 ?_
 refine cN ?_
 refine aM ?_
 refine aM ?_
 refine cK (x:=(⟨(⟨y26.tape.code⟩:aW),(⟨y26.p.Free,y26.p.Nodes,y26.p.Defs,y26.p.Main⟩:ScopeProg),y26.sizes,y26.starts⟩:Code_compiler)) ?_
 cases H
 refine aH [0] (by decide) ?_
 exact dC (.inr rfl) rfl rfl
 exact fk
 kernel_rfl
 revert H;refine I5 (fun c7 H=>?_) fun c7 H=>?_
 revert H;refine B1 fun y27 h43 H=>?_
 apply bE (ods:=[_,_,_,_,_,_,_,_,_]) 9 0 4 bD rfl rfl rfl
 refine ND ?_
 refine M8 ?_
 intros
 refine M1 ?_
 intros
 refine Z1 ?_
 refine bZ ?_
 refine cN ?_
 refine bO ?_
 refine bO ?_
 refine cK (x:=(⟨(⟨a0.tape.code⟩:aW),(⟨a0.p.Free,a0.p.Nodes,a0.p.Defs,a0.p.Main⟩:ScopeProg),a0.sizes,a0.starts⟩:Code_compiler)) ?_
 revert H;refine bs fun y28 h44 H=>?_
 refine Tc (kV _ _ _ _ _ _ h44) ?_
 refine dH (fun v34 v35=>?_)
 refine aM ?_
 refine dI (fun b21 h45=>?_);subst h45
 refine aF 2 rfl (fun hc_v34=>?_)
 refine Z2 ?_
 refine cN ?_
 refine aM ?_
 refine aM ?_
 refine cK (x:=(⟨(⟨y28.tape.code⟩:aW),(⟨y28.p.Free,y28.p.Nodes,y28.p.Defs,y28.p.Main⟩:ScopeProg),y28.sizes,y28.starts⟩:Code_compiler)) ?_
 cases H
 refine aH [0] (by decide) ?_
 exact dC (.inr rfl) rfl rfl
 exact fk
 kernel_rfl
 revert H;refine I5 (fun c8 H=>?_) fun c8 H=>?_
 refine Z5 ?_
 refine bZ ?_
 refine cN ?_
 refine bO ?_
 refine bO ?_
 refine cK (x:=(⟨(⟨a0.tape.code⟩:aW),(⟨a0.p.Free,a0.p.Nodes,a0.p.Defs,a0.p.Main⟩:ScopeProg),a0.sizes,a0.starts⟩:Code_compiler)) ?_
 revert H;refine bs fun y29 h46 H=>?_
 refine Tc (kV _ _ _ _ _ _ h46) ?_
 refine dH (fun v36 v37=>?_)
 refine aM ?_
 refine dI (fun b22 h47=>?_);subst h47
 refine aF 2 rfl (fun hc_v36=>?_)
 refine Z2 ?_
 refine cN ?_
 refine aM ?_
 refine aM ?_
 refine cK (x:=(⟨(⟨y29.tape.code⟩:aW),(⟨y29.p.Free,y29.p.Nodes,y29.p.Defs,y29.p.Main⟩:ScopeProg),y29.sizes,y29.starts⟩:Code_compiler)) ?_
 cases H
 refine aH [0] (by decide) ?_
 exact dC (.inr rfl) rfl rfl
 refine Z3 ?_
 refine bZ ?_
 refine cN ?_
 refine bO ?_
 refine bO ?_
 refine cK (x:=(⟨(⟨a0.tape.code⟩:aW),(⟨a0.p.Free,a0.p.Nodes,a0.p.Defs,a0.p.Main⟩:ScopeProg),a0.sizes,a0.starts⟩:Code_compiler)) ?_
 cases H
 refine aH [0] (by decide) ?_
 exact dC (.inr rfl) rfl rfl
 intro p0 a0 a1 a2 r H
 rw [qN]at H
 refine bS Tryz.func86 rfl Tryz.ntmps86 rfl (fun β=>?_)
 refine dH (fun v1 v2=>?_)
 refine aM ?_
 refine dI (fun b1 h1=>?_);subst h1
 refine aF 2 rfl (fun hc_v1=>?_)
 refine Z3 ?_
 refine cN ?_
 refine aM ?_
 refine aM ?_
 refine cK (x:=(⟨(⟨a0.tape.code⟩:aW),(⟨a0.p.Free,a0.p.Nodes,a0.p.Defs,a0.p.Main⟩:ScopeProg),a0.sizes,a0.starts⟩:Code_compiler)) ?_
 revert H;refine bs fun y1 h2 H=>?_
 refine Tc (ih_code_compiler_node _ _ _ _ h2) ?_
 refine dH (fun v3 v4=>?_)
 refine aM ?_
 refine dI (fun b2 h3=>?_);subst h3
 refine aF 2 rfl (fun hc_v3=>?_)
 refine Z4 ?_
 refine cN ?_
 refine aM ?_
 refine aM ?_
 refine cK (x:=(⟨(⟨y1.tape.code⟩:aW),(⟨y1.p.Free,y1.p.Nodes,y1.p.Defs,y1.p.Main⟩:ScopeProg),y1.sizes,y1.starts⟩:Code_compiler)) ?_
 revert H;refine bs fun y2 h4 H=>?_
 refine Tc (aIx _ _ _ _ _ h4) ?_
 refine dH (fun v5 v6=>?_)
 refine aM ?_
 refine dI (fun b3 h5=>?_);subst h5
 refine aF 2 rfl (fun hc_v5=>?_)
 refine Z1 ?_
 revert H;refine cs (fun c1 H=>?_) fun c1 H=>?_
 refine Z6 ?_
 refine cN ?_
 refine aM ?_
 refine aM ?_
 refine cK (x:=(⟨(⟨y2.1.tape.code⟩:aW),(⟨y2.1.p.Free,y2.1.p.Nodes,y2.1.p.Defs,y2.1.p.Main⟩:ScopeProg),y2.1.sizes,y2.1.starts⟩:Code_compiler)) ?_
 revert H;refine bs fun y3 h6 H=>?_
 refine Tc (kV _ _ _ _ _ _ h6) ?_
 refine dH (fun v7 v8=>?_)
 refine aM ?_
 refine dI (fun b4 h7=>?_);subst h7
 refine aF 2 rfl (fun hc_v7=>?_)
 refine Z1 ?_
 refine cN ?_
 refine aM ?_
 refine aM ?_
 refine cK (x:=(⟨(⟨y3.tape.code⟩:aW),(⟨y3.p.Free,y3.p.Nodes,y3.p.Defs,y3.p.Main⟩:ScopeProg),y3.sizes,y3.starts⟩:Code_compiler)) ?_
 cases H
 exact dC (.inr rfl) rfl rfl
 refine Z2 ?_
 refine cN ?_
 refine aM ?_
 refine aM ?_
 refine cK (x:=(⟨(⟨y2.1.tape.code⟩:aW),(⟨y2.1.p.Free,y2.1.p.Nodes,y2.1.p.Defs,y2.1.p.Main⟩:ScopeProg),y2.1.sizes,y2.1.starts⟩:Code_compiler)) ?_
 cases H
 exact dC (.inr rfl) rfl rfl
theorem aIn (fuel:Nat) (p0:Nat) (a0:Code_compiler) (a1:Int) (r:Code_compiler) (H:gJ fuel a0 a1=some r):FnS Tryz.prog 37 [fEq (.pointer (some ⟨p0,0,none⟩)),fI a1] [gG p0 a0] (dG []) (fun _=>[gG p0 r]):=(aIc fuel).1 p0 a0 a1 r H
def vG (a0:List ScopeChan):Option (List ScopeChan):=
 (dP (([]:List ScopeChan)++a0)).bind fun z1=>
 some z1
theorem aHt  (a0:List ScopeChan) (r:List ScopeChan) (H:vG a0=some r):FnS Tryz.prog 40 [fSl aS a0] [] (fSl aS r) (fun _=>[]):=by
 unfold vG at H
 refine bS Tryz.func40 rfl Tryz.ntmps40 rfl (fun β=>?_)
 refine Z3 ?_
 refine aI ?_
 refine Z2 ?_
 refine Yy (aDg rfl hh (us rfl)) ?_
 refine Z1 ?_
 refine aFb (has rfl) (fun hx=>?_) ?_
 replace H:some []=some r:=by subst hx;exact H
 refine Z4 ?_
 cases H
 exact dQ rfl (jV rfl gA) rfl
 refine Z3 ?_
 refine Tn (fV (t:=aS) (xs:=([]:List ScopeChan)) rfl (et rfl) bT.nil rfl rfl rfl) fun b1=>?_
 generalize (Value.slice (some ⟨b1,0,none⟩) _ _)=v1
 refine aF 0 rfl (fun hc_v1=>?_)
 revert H;refine B1 fun z1 h1 H=>?_
 refine rH (ys:=a0) trivial rfl rfl rfl (has rfl) (has rfl) (et rfl) rfl h1 (fun v2=>?_)
 refine aF 0 rfl (fun hc_v2=>?_)
 refine Z3 ?_
 refine cJ (φ:=fSl aS z1) (v:=v2) [2,7] cW fz ?_
 refine cI ?_
 cases H
 exact To
open Go.SX Go.SW Go.Dt
def oO (fuel:Nat) (y2:List Int):Nat → Int → (List CodeIns) → (List ByteArray) → (List ScopeNode) → (List ScopeDef) → Int → (List Int) → (aN Int Int) → Option (List CodeIns × List ByteArray × List ScopeNode × List ScopeDef × Int × List Int × aN Int Int)
| 0,_,_,_,_,_,_,_,_=>none
| k+1,x16,x17,x18,x19,x20,x21,x22,x23=>
 if x16<(y2.length:Int)then
  (idx y2 x16).bind fun y3=>
  (gJ fuel (⟨(⟨x17⟩:aW),(⟨x18,x19,x20,x21⟩:ScopeProg),x22,aN.upd x23 y3 (x17.length:Int)⟩:Code_compiler) y3).bind fun y4=>
  (gX (⟨(⟨y4.tape.code⟩:aW),(⟨y4.p.Free,y4.p.Nodes,y4.p.Defs,y4.p.Main⟩:ScopeProg),y4.sizes,y4.starts⟩:Code_compiler) 16 0 0).bind fun y5=>
  (chk (x16+1)).bind fun z1=>
  oO fuel y2 k z1 y5.tape.code y5.p.Free y5.p.Nodes y5.p.Defs y5.p.Main y5.sizes y5.starts
 else
  some (x17,x18,x19,x20,x21,x22,x23)
def nT (x1:List CodeIns) (x7:aN Int Int):Nat → Int → (List CodeIns) → Option (List CodeIns)
| 0,_,_=>none
| k+1,x27,x28=>
 if x27<(x1.length:Int)then
  ((idx x28 x27).bind fun y6=>
  (vT y6.Op).bind fun y7=>
  bif y7 then
   (idx x28 x27).bind fun y8=>
   (idx x28 x27).bind fun y9=>
   some (x28.set x27.toNat ({ y9 with B:=((x7.get y8.B).getD 0) }))
  else
   some x28).bind fun x29=>
  (chk (x27+1)).bind fun z2=>
  nT x1 x7 k z2 x29
 else
  some x28
def oZ (x7:aN Int Int) (y10:ScopeDef):Nat → Int → (List ScopeSpot) → Option (List ScopeSpot)
| 0,_,_=>none
| k+1,x39,x40=>
 if x39<(y10.Spots.length:Int)then
  (idx y10.Spots x39).bind fun y12=>
  (dP (x40++[(⟨y12.In,((x7.get y12.Node).getD 0)⟩:ScopeSpot)])).bind fun z3=>
  (chk (x39+1)).bind fun z4=>
  oZ x7 y10 k z4 z3
 else
  some x40
def oY (x7:aN Int Int) (y10:ScopeDef):Nat → Int → (List ScopeRule) → Option (List ScopeRule)
| 0,_,_=>none
| k+1,x44,x45=>
 if x44<(y10.Rules.length:Int)then
  (idx y10.Rules x44).bind fun y13=>
  (tO y13.Joins).bind fun y14=>
  (dP (x45++[(⟨y13.At,y14,((x7.get y13.Node).getD 0)⟩:ScopeRule)])).bind fun z5=>
  (chk (x44+1)).bind fun z6=>
  oY x7 y10 k z6 z5
 else
  some x45
def pD (fuel:Nat) (a0:ScopeProg) (x7:aN Int Int):Nat → Int → (List ScopeDef) → Option (List ScopeDef)
| 0,_,_=>none
| k+1,x33,x34=>
 if x33<(a0.Defs.length:Int)then
  ((idx a0.Defs x33).bind fun y10=>
  (vG y10.Chans).bind fun y11=>
  (oZ x7 y10 fuel 0 []).bind fun x36=>
  (oY x7 y10 fuel 0 []).bind fun x41=>
  (dP (x34++[(⟨y11,x36,x41⟩:ScopeDef)])).bind fun z7=>
  some z7).bind fun x35=>
  (chk (x33+1)).bind fun z8=>
  pD fuel a0 x7 k z8 x35
 else
  some x34
def sI (fuel:Nat) (a0:ScopeProg):Option (CodeProg × Int):=
 (sE fuel (⟨a0.Free,a0.Nodes,a0.Defs,a0.Main⟩:ScopeProg)).bind fun y1=>
 if y1.2≠0 then
  some ((⟨0,[],[],0⟩:CodeProg),y1.2)
 else
  ((vP fuel (⟨a0.Free,a0.Nodes,a0.Defs,a0.Main⟩:ScopeProg)).bind fun y2=>
  oO fuel y2 fuel 0 [] a0.Free a0.Nodes a0.Defs a0.Main y1.1 (aN.none:aN Int Int)).bind fun (x1,x2,x3,x4,x5,x6,x7)=>
  (nT x1 x7 fuel 0 x1).bind fun x24=>
  (pD fuel a0 x7 fuel 0 []).bind fun x30=>
  some ((⟨(a0.Free.length:Int),x30,x24,((x7.get a0.Main).getD 0)⟩:CodeProg),0)
theorem aG4 (fuel:Nat)  (a0:ScopeProg) (r:CodeProg × Int) (H:sI fuel a0=some r):FnS Tryz.prog 14 [fSt fJ a0] [] (dG [fSt yS r.1,fI r.2]) (fun _=>[]):=by
 unfold sI at H
 refine bS Tryz.func14 rfl Tryz.ntmps14 rfl (fun β=>?_)
 refine Z1 ?_
 refine Tn (cO rfl hh bW) fun b1=>?_
 refine Tn (cV rfl uP rfl) fun b2=>?_
 revert H;refine B4 fun y1 h1 H=>?_
 refine Tc (aG6 _ _ _ h1) ?_
 refine Z6 ?_
 refine aI ?_
 revert H;refine I4 (fun c1 H=>?_) fun c1 H=>?_
 refine Z2 ?_
 refine Yy (fU (ψs:=[fI 0,fEq (.slice none 0 0),fEq (.slice none 0 0),fI 0]) rfl aAf rfl bH.nil rfl) ?_
 refine Z1 ?_
 refine dR (φs':=[fI 0,fEq (.slice none 0 0),fEq (.slice none 0 0),fI 0]) trivial rfl rfl (has rfl) (has rfl) (aK (aD trivial) (aK (aD trivial) (aK (aD trivial) (aK (aD trivial) bY)))) (sz rfl) rfl rfl rfl ?_
 refine Z3 ?_
 cases H
 refine aH [0] (by decide) ?_
 exact aCW rfl (ag rfl) rfl (bA rfl) (bA rfl) (aAN (aP.cons Ent.rfl (aP.cons gA (aP.cons gA (aP.cons Ent.rfl aP.nil))))) rfl
 refine Z6 ?_
 refine Tn (aBN (fun y=>fI y) eJ rfl) fun b3=>?_
 refine Yy (fU (ψs:=[fEq (.slice none 0 0),fSl aE a0.Free,fSl aG a0.Nodes,fSl aB a0.Defs,fI a0.Main,fSl tI y1.1,fEq (.map (some b3))]) rfl aGY rfl (bH.cons (has rfl) bW (bH.cons (has rfl) (cC (bU)) (bH.cons (has rfl) (cC (aD trivial)) bH.nil))) rfl) ?_
 refine Tn (cO rfl hh bW) fun b4=>?_
 revert H;refine B2 fun o1 H Hr1=>?_
 refine aO (ι:=List CodeIns × List ByteArray × List ScopeNode × List ScopeDef × Int × List Int × aN Int Int × Value × Nat) (fun i=>o1=(i.1,i.2.1,i.2.2.1,i.2.2.2.1,i.2.2.2.2.1,i.2.2.2.2.2.1,i.2.2.2.2.2.2.1)) (fun i=>[(1,fEq (ptr b1)),(2,fEq (ptr b2)),(6,fEq (ptr b4))]) (fun i=>[aA b4 103 [fEq i.2.2.2.2.2.2.2.1,fSl aE i.2.1,fSl aG i.2.2.1,fSl aB i.2.2.2.1,fI i.2.2.2.2.1,fSl tI i.2.2.2.2.2.1,fEq (.map (some i.2.2.2.2.2.2.2.2))],aA b2 25 [fI 0,fEq (.slice none 0 0),fEq (.slice none 0 0),fI 0],aA b1 37 [fSl aE a0.Free,fSl aG a0.Nodes,fSl aB a0.Defs,fI a0.Main],dY eJ (fun y=>fI y) i.2.2.2.2.2.2.2.2 i.2.2.2.2.2.2.1,aC i.2.2.2.2.2.2.2.1 73 aQ i.1]) ?_ ?_
 revert H;refine B2 fun y2 h2 H=>?_
 refine Tc (aGg _ _ _ h2) ?_
 refine Z4 ?_
 refine hO aQ 73 ?_
 refine aH [1,3,4,2,0] (by decide) ?_
 refine Tl (ι:=Nat × Int × List CodeIns × List ByteArray × List ScopeNode × List ScopeDef × Int × List Int × aN Int Int × Value × Nat) (fun i=>oO fuel y2 i.1 i.2.1 i.2.2.1 i.2.2.2.1 i.2.2.2.2.1 i.2.2.2.2.2.1 i.2.2.2.2.2.2.1 i.2.2.2.2.2.2.2.1 i.2.2.2.2.2.2.2.2.1=_) (fun i=>i.1) (fun i=>[(1,fEq (ptr b1)),(2,fEq (ptr b2)),(6,fEq (ptr b4)),(33,fSl tI y2),(34,fI (y2.length:Int)),(35,fI i.2.1)]) (fun i=>[aA b4 103 [fEq i.2.2.2.2.2.2.2.2.2.1,fSl aE i.2.2.2.1,fSl aG i.2.2.2.2.1,fSl aB i.2.2.2.2.2.1,fI i.2.2.2.2.2.2.1,fSl tI i.2.2.2.2.2.2.2.1,fEq (.map (some i.2.2.2.2.2.2.2.2.2.2))],aA b2 25 [fI 0,fEq (.slice none 0 0),fEq (.slice none 0 0),fI 0],aA b1 37 [fSl aE a0.Free,fSl aG a0.Nodes,fSl aB a0.Defs,fI a0.Main],dY eJ (fun y=>fI y) i.2.2.2.2.2.2.2.2.2.2 i.2.2.2.2.2.2.2.2.1,aC i.2.2.2.2.2.2.2.2.2.1 73 aQ i.2.2.1]) (fuel,0,[],a0.Free,a0.Nodes,a0.Defs,a0.Main,y1.1,(aN.none:aN Int Int),(.slice none 0 0),b3) H ?_
 clear H;rintro⟨k1,x16,x17,x18,x19,x20,x21,x22,x23,v3,b7⟩ H
 replace H:oO fuel y2 k1 x16 x17 x18 x19 x20 x21 x22 x23=_:=H
 try dsimp only
 obtain _ | k1:=k1
 rw [oO]at H;cases H
 rw [oO]at H
 refine aF 4 rfl (fun hc_v3=>?_)
 refine Z3 ?_
 refine aI ?_
 revert H;refine is (fun c2 H=>?_) fun c2 H=>?_
 refine Z3 ?_
 refine aI ?_
 revert H;refine B2 fun y3 h3 H=>?_
 refine Z4 ?_
 refine aI ?_
 apply bE (ods:=[_,_,_,_,_,_,_,_,_,_,_]) 11 0 5 bD rfl rfl rfl
 refine ND ?_
 refine M8 ?_
 intros
 refine M3 ?_
 intros
 refine Z1 ?_
 refine bO ?_
 refine jO (k:=y3) (y:=(x17.length:Int)) trivial (.inl rfl) rfl (has rfl) (has rfl) rfl (has rfl) rfl yO ?_
 refine Z4 ?_
 refine cN ?_
 refine bB ?_
 refine aM ?_
 refine cK (x:=(⟨(⟨x17⟩:aW),(⟨x18,x19,x20,x21⟩:ScopeProg),x22,aN.upd x23 y3 (x17.length:Int)⟩:Code_compiler)) ?_
 revert H;refine bs fun y4 h4 H=>?_
 refine Tc (aIn _ _ _ _ _ h4) ?_
 refine dH (fun v4 v5=>?_)
 refine aM ?_
 refine dI (fun b8 h5=>?_);subst h5
 refine aF 2 rfl (fun hc_v4=>?_)
 refine Z5 ?_
 refine cN ?_
 refine aM ?_
 refine aM ?_
 refine cK (x:=(⟨(⟨y4.tape.code⟩:aW),(⟨y4.p.Free,y4.p.Nodes,y4.p.Defs,y4.p.Main⟩:ScopeProg),y4.sizes,y4.starts⟩:Code_compiler)) ?_
 revert H;refine bs fun y5 h6 H=>?_
 refine Tc (kV _ _ _ _ _ _ h6) ?_
 refine dH (fun v6 v7=>?_)
 refine aM ?_
 refine dI (fun b9 h7=>?_);subst h7
 refine aF 2 rfl (fun hc_v6=>?_)
 revert H;refine B4 fun z1 h8 H=>?_
 refine Z3 ?_
 refine aH [1,3,4,0,2] (by decide) ?_
 exact Tm ((k1,z1,y5.tape.code,y5.p.Free,y5.p.Nodes,y5.p.Defs,y5.p.Main,y5.sizes,y5.starts,v6,b9)) ⟨H,ls⟩
 exact fk
 kernel_rfl
 refine Z6 ?_
 exact Tm ((x17,x18,x19,x20,x21,x22,x23,v3,b7)) (ij H)
 clear H;intro i hi;obtain⟨x1,x2,x3,x4,x5,x6,x7,v1,b5⟩:=i;subst o1;have H:=Hr1;clear Hr1;try dsimp only at H
 try dsimp only
 refine aF 4 rfl (fun hc_v1=>?_)
 refine aI ?_
 apply bE (ods:=[_,_,_,_,_,_,_,_,_,_,_,_,_,_,_,_,_,_]) 18 1 6 bD rfl rfl rfl
 refine ND ?_
 refine M8 ?_
 intros
 refine M6 ?_
 intros
 refine Mo 3 rfl (zZ (zα:=0) (k:=a0.Main) rfl hh hh rfl yO Ent.rfl) fun _=>?_
 refine My (fU (ψs:=[fI (a0.Free.length:Int),fEq (.slice none 0 0),fEq v1,fI ((x7.get a0.Main).getD 0)]) rfl aAf rfl (bH.cons (has rfl) (cC (aD trivial)) (bH.cons (has rfl) (cC (aD hc_v1)) (bH.cons (has rfl) (cC (aD trivial)) bH.nil))) rfl) fun _=>?_
 refine Mn 5 (fun b10=>ptr b10) (fun b10=>aA b10 25 [fI 0,fEq (.slice none 0 0),fEq (.slice none 0 0),fI 0]) rfl (cV rfl uP rfl) (fun b10 u1=>?_)
 refine tN (od:=od1 16 [5] true (fun b10 _=>dN) (fun b10 _=>[aA b10 25 [fI (a0.Free.length:Int),fEq (.slice none 0 0),fEq v1,fI ((x7.get a0.Main).getD 0)]])) (p:=5) (φs':=[fI (a0.Free.length:Int),fEq (.slice none 0 0),fEq v1,fI ((x7.get a0.Main).getD 0)]) rfl (fun _=>rfl) (fun _=>rfl) trivial rfl rfl rfl (has rfl) (has rfl) (aK (aD trivial) (aK (aD trivial) (aK (aD hc_v1) (aK (aD trivial) bY)))) (sz rfl) rfl rfl rfl (fun _=>?_)
 revert H;refine B2 fun o2 H Hr2=>?_
 refine aO (ι:=List CodeIns) (fun i=>o2=i) (fun i=>[(1,fEq (ptr b1)),(2,fEq (ptr b2)),(6,fEq (ptr b4)),(9,fEq (ptr b10))]) (fun i=>[aA b4 103 [fEq v1,fSl aE x2,fSl aG x3,fSl aB x4,fI x5,fSl tI x6,fEq (.map (some b5))],aA b2 25 [fI 0,fEq (.slice none 0 0),fEq (.slice none 0 0),fI 0],aA b1 37 [fSl aE a0.Free,fSl aG a0.Nodes,fSl aB a0.Defs,fI a0.Main],aA b10 25 [fI (a0.Free.length:Int),fEq (.slice none 0 0),fEq v1,fI ((x7.get a0.Main).getD 0)],dY eJ (fun y=>fI y) b5 x7,aC v1 73 aQ i]) ?_ ?_
 refine Z7 ?_
 refine aH [0,1,2,5,3,4] (by decide) ?_
 refine Tl (ι:=Nat × Int × List CodeIns) (fun i=>nT x1 x7 i.1 i.2.1 i.2.2=_) (fun i=>i.1) (fun i=>[(1,fEq (ptr b1)),(2,fEq (ptr b2)),(6,fEq (ptr b4)),(9,fEq (ptr b10)),(76,fI (x1.length:Int)),(77,fI i.2.1)]) (fun i=>[aA b4 103 [fEq v1,fSl aE x2,fSl aG x3,fSl aB x4,fI x5,fSl tI x6,fEq (.map (some b5))],aA b2 25 [fI 0,fEq (.slice none 0 0),fEq (.slice none 0 0),fI 0],aA b1 37 [fSl aE a0.Free,fSl aG a0.Nodes,fSl aB a0.Defs,fI a0.Main],aA b10 25 [fI (a0.Free.length:Int),fEq (.slice none 0 0),fEq v1,fI ((x7.get a0.Main).getD 0)],dY eJ (fun y=>fI y) b5 x7,aC v1 73 aQ i.2.2]) (fuel,0,x1) H ?_
 clear H;rintro⟨k2,x27,x28⟩ H
 replace H:nT x1 x7 k2 x27 x28=_:=H
 try dsimp only
 obtain _ | k2:=k2
 rw [nT]at H;cases H
 rw [nT]at H
 refine Z3 ?_
 refine aI ?_
 revert H;refine is (fun c3 H=>?_) fun c3 H=>?_
 revert H;refine B3 fun o3 H Hr3=>?_
 refine aO (ι:=List CodeIns) (fun i=>o3=i) (fun i=>[(1,fEq (ptr b1)),(2,fEq (ptr b2)),(6,fEq (ptr b4)),(9,fEq (ptr b10)),(76,fI (x1.length:Int)),(77,fI x27)]) (fun i=>[aA b4 103 [fEq v1,fSl aE x2,fSl aG x3,fSl aB x4,fI x5,fSl tI x6,fEq (.map (some b5))],aA b2 25 [fI 0,fEq (.slice none 0 0),fEq (.slice none 0 0),fI 0],aA b1 37 [fSl aE a0.Free,fSl aG a0.Nodes,fSl aB a0.Defs,fI a0.Main],aA b10 25 [fI (a0.Free.length:Int),fEq (.slice none 0 0),fEq v1,fI ((x7.get a0.Main).getD 0)],dY eJ (fun y=>fI y) b5 x7,aC v1 73 aQ i]) ?_ ?_
 revert H;refine B9 fun y6 h9 H=>?_
 refine Z1 ?_
 refine Yy (gS 0 rfl hh (fa rfl) rfl) ?_
 refine Yo 5 rfl (fZ rfl rfl hh (sc rfl) (cB h9) rfl) ?_
 revert H;refine bs fun y7 h10 H=>?_
 refine Tc (aGH _ _ h10) ?_
 refine Z1 ?_
 revert H;refine cs (fun c4 H=>?_) fun c4 H=>?_
 revert H;refine B1 fun y8 h11 H=>?_
 revert H;refine bs fun y9 h12 H=>?_
 apply bE (ods:=[_,_,_,_,_,_,_,_,_,_,_,_,_,_,_,_,_]) 17 0 6 bD rfl rfl rfl
 refine ND ?_
 refine M8 ?_
 intros
 refine M3 ?_
 intros
 refine My (gS 2 rfl hh (fa rfl) rfl) fun _=>?_
 refine Mo 5 rfl (fZ rfl rfl hh (sc rfl) (cB h11) rfl) fun _=>?_
 refine Mo 4 rfl (zZ (zα:=0) (k:=y8.B) rfl hh hh rfl yO Ent.rfl) fun _=>?_
 refine M1 ?_
 intros
 refine My (gS 2 rfl hh (fa rfl) rfl) fun _=>?_
 refine lP (od:=odC [5] true (dN) [aC v1 73 aQ (x28.set x27.toNat ({ y9 with B:=((x7.get y8.B).getD 0) }))]) (p:=5) (z':={ y9 with B:=((x7.get y8.B).getD 0) }) rfl (fun _=>rfl) (fun _=>rfl) trivial rfl rfl rfl rfl (has rfl) (has rfl) (aD trivial) (sz rfl) (cB h12) rfl rfl (fun _=>?_)
 refine Z4 ?_
 exact Tm (x28.set x27.toNat ({ y9 with B:=((x7.get y8.B).getD 0) })) (ij H)
 exact fk
 kernel_rfl
 refine Z4 ?_
 exact Tm (x28) (ij H)
 clear H;intro x29 hi;subst o3;have H:=Hr3;clear Hr3;try dsimp only at H
 try dsimp only
 revert H;refine B1 fun z2 h13 H=>?_
 refine Z3 ?_
 exact Tm ((k2,z2,x29)) ⟨H,ls⟩
 refine Z6 ?_
 exact Tm (x28) (ij H)
 clear H;intro x24 hi;subst o2;have H:=Hr2;clear Hr2;try dsimp only at H
 try dsimp only
 revert H;refine bs fun o4 H Hr4=>?_
 refine aO (ι:=List ScopeDef × Value) (fun i=>o4=i.1) (fun i=>[(2,fEq (ptr b2)),(9,fEq (ptr b10))]) (fun i=>[aA b4 103 [fEq v1,fSl aE x2,fSl aG x3,fSl aB x4,fI x5,fSl tI x6,fEq (.map (some b5))],aA b2 25 [fI 0,fEq (.slice none 0 0),fEq (.slice none 0 0),fI 0],aA b1 37 [fSl aE a0.Free,fSl aG a0.Nodes,fSl aB a0.Defs,fI a0.Main],aA b10 25 [fI (a0.Free.length:Int),fEq i.2,fEq v1,fI ((x7.get a0.Main).getD 0)],dY eJ (fun y=>fI y) b5 x7,aC v1 73 aQ x24,aC i.2 63 aB i.1]) ?_ ?_
 refine Z7 ?_
 refine hO aB 63 ?_
 refine aH [1,2,3,4,5,6,0] (by decide) ?_
 refine Tl (ι:=Nat × Int × List ScopeDef × Value) (fun i=>pD fuel a0 x7 i.1 i.2.1 i.2.2.1=_) (fun i=>i.1) (fun i=>[(2,fEq (ptr b2)),(6,fEq (ptr b4)),(9,fEq (ptr b10)),(105,fSl aB a0.Defs),(106,fI (a0.Defs.length:Int)),(107,fI i.2.1)]) (fun i=>[aA b4 103 [fEq v1,fSl aE x2,fSl aG x3,fSl aB x4,fI x5,fSl tI x6,fEq (.map (some b5))],aA b2 25 [fI 0,fEq (.slice none 0 0),fEq (.slice none 0 0),fI 0],aA b1 37 [fSl aE a0.Free,fSl aG a0.Nodes,fSl aB a0.Defs,fI a0.Main],aA b10 25 [fI (a0.Free.length:Int),fEq i.2.2.2,fEq v1,fI ((x7.get a0.Main).getD 0)],dY eJ (fun y=>fI y) b5 x7,aC v1 73 aQ x24,aC i.2.2.2 63 aB i.2.2.1]) (fuel,0,[],(.slice none 0 0)) H ?_
 clear H;rintro⟨k3,x33,x34,v10⟩ H
 replace H:pD fuel a0 x7 k3 x33 x34=_:=H
 try dsimp only
 obtain _ | k3:=k3
 rw [pD]at H;cases H
 rw [pD]at H
 refine aF 6 rfl (fun hc_v10=>?_)
 refine Z3 ?_
 refine aI ?_
 revert H;refine is (fun c5 H=>?_) fun c5 H=>?_
 revert H;refine B3 fun o5 H Hr5=>?_
 refine aO (ι:=List ScopeDef × Value) (fun i=>o5=i.1) (fun i=>[(2,fEq (ptr b2)),(6,fEq (ptr b4)),(9,fEq (ptr b10)),(105,fSl aB a0.Defs),(106,fI (a0.Defs.length:Int)),(107,fI x33)]) (fun i=>[aA b10 25 [fI (a0.Free.length:Int),fEq i.2,fEq v1,fI ((x7.get a0.Main).getD 0)],aA b4 103 [fEq v1,fSl aE x2,fSl aG x3,fSl aB x4,fI x5,fSl tI x6,fEq (.map (some b5))],aA b2 25 [fI 0,fEq (.slice none 0 0),fEq (.slice none 0 0),fI 0],aA b1 37 [fSl aE a0.Free,fSl aG a0.Nodes,fSl aB a0.Defs,fI a0.Main],dY eJ (fun y=>fI y) b5 x7,aC i.2 63 aB i.1,aC v1 73 aQ x24]) ?_ ?_
 revert H;refine B2 fun y10 h14 H=>?_
 refine Z2 ?_
 refine Tn (cV rfl vR rfl) fun b11=>?_
 refine dR (φs':=[fSl aS y10.Chans,fSl aY y10.Spots,fSl aZ y10.Rules]) trivial rfl rfl (has rfl) (has rfl) (aK (bU) (aK (bU) (aK (bU) bY))) (sz rfl) rfl rfl rfl ?_
 revert H;refine B4 fun y11 h15 H=>?_
 refine Tc (aHt _ _ h15) ?_
 refine Yy (fU (ψs:=[fSl aS y11,fEq (.slice none 0 0),fEq (.slice none 0 0)]) rfl aFn rfl (bH.cons (has rfl) (cC (bU)) bH.nil) rfl) ?_
 refine Tn (cV rfl vR rfl) fun b12=>?_
 refine dR (φs':=[fSl aS y11,fEq (.slice none 0 0),fEq (.slice none 0 0)]) trivial rfl rfl (has rfl) (has rfl) (aK (bU) (aK (aD trivial) (aK (aD trivial) bY))) (sz rfl) rfl rfl rfl ?_
 revert H;refine B1 fun o6 H Hr6=>?_
 refine aO (ι:=List ScopeSpot × Value) (fun i=>o6=i.1) (fun i=>[(2,fEq (ptr b2)),(6,fEq (ptr b4)),(9,fEq (ptr b10)),(105,fSl aB a0.Defs),(106,fI (a0.Defs.length:Int)),(107,fI x33),(12,fEq (ptr b11)),(13,fEq (ptr b12))]) (fun i=>[aA b12 63 [fSl aS y11,fEq i.2,fEq (.slice none 0 0)],aA b11 63 [fSl aS y10.Chans,fSl aY y10.Spots,fSl aZ y10.Rules],aA b4 103 [fEq v1,fSl aE x2,fSl aG x3,fSl aB x4,fI x5,fSl tI x6,fEq (.map (some b5))],aA b2 25 [fI 0,fEq (.slice none 0 0),fEq (.slice none 0 0),fI 0],aA b1 37 [fSl aE a0.Free,fSl aG a0.Nodes,fSl aB a0.Defs,fI a0.Main],aA b10 25 [fI (a0.Free.length:Int),fEq v10,fEq v1,fI ((x7.get a0.Main).getD 0)],dY eJ (fun y=>fI y) b5 x7,aC i.2 112 aY i.1,aC v1 73 aQ x24,aC v10 63 aB x34]) ?_ ?_
 refine Z7 ?_
 refine hO aY 112 ?_
 refine aH [1,2,3,4,5,6,7,0,8,9] (by decide) ?_
 refine Tl (ι:=Nat × Int × List ScopeSpot × Value) (fun i=>oZ x7 y10 i.1 i.2.1 i.2.2.1=_) (fun i=>i.1) (fun i=>[(2,fEq (ptr b2)),(6,fEq (ptr b4)),(9,fEq (ptr b10)),(105,fSl aB a0.Defs),(106,fI (a0.Defs.length:Int)),(107,fI x33),(12,fEq (ptr b11)),(13,fEq (ptr b12)),(116,fSl aY y10.Spots),(117,fI (y10.Spots.length:Int)),(118,fI i.2.1)]) (fun i=>[aA b12 63 [fSl aS y11,fEq i.2.2.2,fEq (.slice none 0 0)],aA b11 63 [fSl aS y10.Chans,fSl aY y10.Spots,fSl aZ y10.Rules],aA b4 103 [fEq v1,fSl aE x2,fSl aG x3,fSl aB x4,fI x5,fSl tI x6,fEq (.map (some b5))],aA b2 25 [fI 0,fEq (.slice none 0 0),fEq (.slice none 0 0),fI 0],aA b1 37 [fSl aE a0.Free,fSl aG a0.Nodes,fSl aB a0.Defs,fI a0.Main],aA b10 25 [fI (a0.Free.length:Int),fEq v10,fEq v1,fI ((x7.get a0.Main).getD 0)],dY eJ (fun y=>fI y) b5 x7,aC i.2.2.2 112 aY i.2.2.1,aC v1 73 aQ x24,aC v10 63 aB x34]) (fuel,0,[],(.slice none 0 0)) H ?_
 clear H;rintro⟨k4,x39,x40,v14⟩ H
 replace H:oZ x7 y10 k4 x39 x40=_:=H
 try dsimp only
 obtain _ | k4:=k4
 rw [oZ]at H;cases H
 rw [oZ]at H
 refine aF 7 rfl (fun hc_v14=>?_)
 refine Z3 ?_
 refine aI ?_
 revert H;refine is (fun c6 H=>?_) fun c6 H=>?_
 refine Z3 ?_
 refine aI ?_
 revert H;refine B2 fun y12 h16 H=>?_
 refine Z2 ?_
 refine Tn (cV rfl zF rfl) fun b13=>?_
 refine dR (φs':=[fI y12.In,fI y12.Node]) trivial rfl rfl (has rfl) (has rfl) (aK (aD trivial) (aK (aD trivial) bY)) (sz rfl) rfl rfl rfl ?_
 refine Z1 ?_
 apply bE (ods:=[_,_,_,_,_,_,_,_,_,_,_,_,_]) 13 0 11 bD rfl rfl rfl
 refine ND ?_
 refine M8 ?_
 intros
 refine M2 ?_
 intros
 refine Mo 7 rfl (zZ (zα:=0) (k:=y12.Node) rfl hh hh rfl yO Ent.rfl) fun _=>?_
 refine My (fU (ψs:=[fI y12.In,fI ((x7.get y12.Node).getD 0)]) rfl aG2 rfl (bH.cons (has rfl) (cC (aD trivial)) (bH.cons (has rfl) (cC (aD trivial)) bH.nil)) rfl) fun _=>?_
 refine Mf (φ:=fSl aY [(⟨y12.In,((x7.get y12.Node).getD 0)⟩:ScopeSpot)]) (fV (t:=aY) (xs:=[(⟨y12.In,((x7.get y12.Node).getD 0)⟩:ScopeSpot)]) rfl (et rfl) (bT.cons rfl (has rfl) bW bT.nil) rfl rfl rfl) (fun b=>cW) fun _=>?_
 revert H;refine B1 fun z3 h17 H=>?_
 refine T_fr8 ?_
 refine rH (ys:=[(⟨y12.In,((x7.get y12.Node).getD 0)⟩:ScopeSpot)]) trivial rfl rfl rfl (has rfl) (has rfl) (et rfl) rfl h17 (fun v16=>?_)
 refine aF 0 rfl (fun hc_v16=>?_)
 refine Z1 ?_
 refine aM ?_
 refine cR (φs':=[fSl aS y11,fEq v16,fEq (.slice none 0 0)]) trivial rfl rfl (has rfl) (has rfl) (aD hc_v16) (sz rfl) rfl rfl ?_
 revert H;refine B4 fun z4 h18 H=>?_
 refine Z3 ?_
 refine aH [0,3,4,5,6,7,8,1,9,10] (by decide) ?_
 exact Tm ((k4,z4,z3,v16)) ⟨H,ls⟩
 exact fk
 kernel_rfl
 refine Z6 ?_
 exact Tm ((x40,v14)) (ij H)
 clear H;intro i hi;obtain⟨x36,v12⟩:=i;subst o6;have H:=Hr6;clear Hr6;try dsimp only at H
 try dsimp only
 refine aF 7 rfl (fun hc_v12=>?_)
 revert H;refine bs fun o7 H Hr7=>?_
 refine aO (ι:=List ScopeRule × Value) (fun i=>o7=i.1) (fun i=>[(2,fEq (ptr b2)),(6,fEq (ptr b4)),(9,fEq (ptr b10)),(105,fSl aB a0.Defs),(106,fI (a0.Defs.length:Int)),(107,fI x33),(13,fEq (ptr b12))]) (fun i=>[aA b12 63 [fSl aS y11,fEq v12,fEq i.2],aA b11 63 [fSl aS y10.Chans,fSl aY y10.Spots,fSl aZ y10.Rules],aA b4 103 [fEq v1,fSl aE x2,fSl aG x3,fSl aB x4,fI x5,fSl tI x6,fEq (.map (some b5))],aA b2 25 [fI 0,fEq (.slice none 0 0),fEq (.slice none 0 0),fI 0],aA b1 37 [fSl aE a0.Free,fSl aG a0.Nodes,fSl aB a0.Defs,fI a0.Main],aA b10 25 [fI (a0.Free.length:Int),fEq v10,fEq v1,fI ((x7.get a0.Main).getD 0)],dY eJ (fun y=>fI y) b5 x7,aC v12 112 aY x36,aC i.2 114 aZ i.1,aC v1 73 aQ x24,aC v10 63 aB x34]) ?_ ?_
 refine Z7 ?_
 refine hO aZ 114 ?_
 refine aH [1,2,3,4,5,6,7,8,0,9,10] (by decide) ?_
 refine Tl (ι:=Nat × Int × List ScopeRule × Value) (fun i=>oY x7 y10 i.1 i.2.1 i.2.2.1=_) (fun i=>i.1) (fun i=>[(2,fEq (ptr b2)),(6,fEq (ptr b4)),(9,fEq (ptr b10)),(105,fSl aB a0.Defs),(106,fI (a0.Defs.length:Int)),(107,fI x33),(13,fEq (ptr b12)),(139,fSl aZ y10.Rules),(140,fI (y10.Rules.length:Int)),(141,fI i.2.1)]) (fun i=>[aA b12 63 [fSl aS y11,fEq v12,fEq i.2.2.2],aA b11 63 [fSl aS y10.Chans,fSl aY y10.Spots,fSl aZ y10.Rules],aA b4 103 [fEq v1,fSl aE x2,fSl aG x3,fSl aB x4,fI x5,fSl tI x6,fEq (.map (some b5))],aA b2 25 [fI 0,fEq (.slice none 0 0),fEq (.slice none 0 0),fI 0],aA b1 37 [fSl aE a0.Free,fSl aG a0.Nodes,fSl aB a0.Defs,fI a0.Main],aA b10 25 [fI (a0.Free.length:Int),fEq v10,fEq v1,fI ((x7.get a0.Main).getD 0)],dY eJ (fun y=>fI y) b5 x7,aC v12 112 aY x36,aC i.2.2.2 114 aZ i.2.2.1,aC v1 73 aQ x24,aC v10 63 aB x34]) (fuel,0,[],(.slice none 0 0)) H ?_
 clear H;rintro⟨k5,x44,x45,v19⟩ H
 replace H:oY x7 y10 k5 x44 x45=_:=H
 try dsimp only
 obtain _ | k5:=k5
 rw [oY]at H;cases H
 rw [oY]at H
 refine aF 8 rfl (fun hc_v19=>?_)
 refine Z3 ?_
 refine aI ?_
 revert H;refine is (fun c7 H=>?_) fun c7 H=>?_
 refine Z3 ?_
 refine aI ?_
 revert H;refine B2 fun y13 h19 H=>?_
 refine Z2 ?_
 refine Tn (cV rfl pY rfl) fun b15=>?_
 refine dR (φs':=[fI y13.At,fSl tI y13.Joins,fI y13.Node]) trivial rfl rfl (has rfl) (has rfl) (aK (aD trivial) (aK (bU) (aK (aD trivial) bY))) (sz rfl) rfl rfl rfl ?_
 revert H;refine B1 fun y14 h20 H=>?_
 apply bE (ods:=[_,_,_,_,_,_,_,_,_,_,_,_,_,_,_,_]) 16 0 12 bD rfl rfl rfl
 refine ND ?_
 refine M6 ?_
 intros
 refine mP (od:=odC [] true (fSl tI y14) []) (Φ:=fSl tI y14) rfl (fun _=>rfl) trivial rfl rfl (has rfl) (aL.cons (has rfl) aL.nil) rfl (cb rfl) (aGJ y13.Joins y14 h20) (fun _=>?_)
 refine M6 ?_
 intros
 refine Mo 7 rfl (zZ (zα:=0) (k:=y13.Node) rfl hh hh rfl yO Ent.rfl) fun _=>?_
 refine My (fU (ψs:=[fI y13.At,fSl tI y14,fI ((x7.get y13.Node).getD 0)]) rfl aIF rfl (bH.cons (has rfl) (cC (aD trivial)) (bH.cons (has rfl) (cC (bU)) (bH.cons (has rfl) (cC (aD trivial)) bH.nil))) rfl) fun _=>?_
 refine Mf (φ:=fSl aZ [(⟨y13.At,y14,((x7.get y13.Node).getD 0)⟩:ScopeRule)]) (fV (t:=aZ) (xs:=[(⟨y13.At,y14,((x7.get y13.Node).getD 0)⟩:ScopeRule)]) rfl (et rfl) (bT.cons rfl (has rfl) bW bT.nil) rfl rfl rfl) (fun b=>cW) fun _=>?_
 revert H;refine B1 fun z5 h21 H=>?_
 refine T_fr9 ?_
 refine rH (ys:=[(⟨y13.At,y14,((x7.get y13.Node).getD 0)⟩:ScopeRule)]) trivial rfl rfl rfl (has rfl) (has rfl) (et rfl) rfl h21 (fun v21=>?_)
 refine aF 0 rfl (fun hc_v21=>?_)
 refine Z1 ?_
 refine aM ?_
 refine cR (φs':=[fSl aS y11,fEq v12,fEq v21]) trivial rfl rfl (has rfl) (has rfl) (aD hc_v21) (sz rfl) rfl rfl ?_
 revert H;refine B4 fun z6 h22 H=>?_
 refine Z3 ?_
 refine aH [0,3,4,5,6,7,8,9,1,10,11] (by decide) ?_
 exact Tm ((k5,z6,z5,v21)) ⟨H,ls⟩
 exact fk
 kernel_rfl
 refine Z6 ?_
 exact Tm ((x45,v19)) (ij H)
 clear H;intro i hi;obtain⟨x41,v17⟩:=i;subst o7;have H:=Hr7;clear Hr7;try dsimp only at H
 try dsimp only
 refine aF 8 rfl (fun hc_v17=>?_)
 refine Z4 ?_
 refine T_fr7 ?_
 refine cJ (φ:=fSl aY x36) (v:=v12) [] cW (fun _ h=>nomatch h) ?_
 refine fD (φs':=[fSl aS y11,fSl aY x36,fEq v17]) (i:=1) rfl rfl ?_
 refine sB 166 (ψ:=eY [fSl aS y11,fEq v12,fEq v17]) rfl (rE (i:=1) (φs:=[fSl aS y11,fEq v12,fEq v17]) (φs':=[fSl aS y11,fSl aY x36,fEq v17]) rfl rfl) ?_
 refine cI ?_
 refine T_fr7 ?_
 refine cJ (φ:=fSl aZ x41) (v:=v17) [] cW (fun _ h=>nomatch h) ?_
 refine fD (φs':=[fSl aS y11,fSl aY x36,fSl aZ x41]) (i:=2) rfl rfl ?_
 refine sB 166 (ψ:=eY [fSl aS y11,fSl aY x36,fEq v17]) rfl (rE (i:=2) (φs:=[fSl aS y11,fSl aY x36,fEq v17]) (φs':=[fSl aS y11,fSl aY x36,fSl aZ x41]) rfl rfl) ?_
 refine cI ?_
 refine Tn (fV (t:=aB) (xs:=[(⟨y11,x36,x41⟩:ScopeDef)]) rfl (et rfl) (bT.cons rfl hh bW bT.nil) rfl rfl rfl) fun b17=>?_
 generalize (Value.slice (some ⟨b17,0,none⟩) _ _)=v22
 refine aF 0 rfl (fun hc_v22=>?_)
 revert H;refine bs fun z7 h23 H=>?_
 refine T_fr9 ?_
 refine bZ ?_
 refine kH trivial rfl rfl rfl (has rfl) (has rfl) (et rfl) rfl h23 (fun v23=>?_)
 refine aF 0 rfl (fun hc_v23=>?_)
 refine Z1 ?_
 refine oN ?_
 refine cR (φs':=[fI (a0.Free.length:Int),fEq v23,fEq v1,fI ((x7.get a0.Main).getD 0)]) trivial rfl rfl (has rfl) (has rfl) (aD hc_v23) (sz rfl) rfl rfl ?_
 refine Z3 ?_
 refine aH [0,4,5,6,7,1,8] (by decide) ?_
 exact Tm ((z7,v23)) (ij H)
 clear H;intro i hi;obtain⟨x35,v11⟩:=i;subst o5;have H:=Hr5;clear Hr5;try dsimp only at H
 try dsimp only
 refine aF 5 rfl (fun hc_v11=>?_)
 revert H;refine B1 fun z8 h24 H=>?_
 refine Z3 ?_
 refine aH [1,2,3,0,4,6,5] (by decide) ?_
 exact Tm ((k3,z8,x35,v11)) ⟨H,ls⟩
 refine Z6 ?_
 exact Tm ((x34,v10)) (ij H)
 clear H;intro i hi;obtain⟨x30,v8⟩:=i;subst o4;have H:=Hr4;clear Hr4;try dsimp only at H
 try dsimp only
 refine aF 6 rfl (fun hc_v8=>?_)
 refine Z2 ?_
 refine bZ ?_
 refine dR (φs':=[fI (a0.Free.length:Int),fEq v8,fEq v1,fI ((x7.get a0.Main).getD 0)]) trivial rfl rfl (has rfl) (has rfl) (aK (aD trivial) (aK (aD hc_v8) (aK (aD hc_v1) (aK (aD trivial) bY)))) (sz rfl) rfl rfl rfl ?_
 refine Z3 ?_
 refine oN ?_
 refine cJ (φ:=fSl aB x30) (v:=v8) [] cW (fun _ h=>nomatch h) ?_
 refine fD (φs':=[fI (a0.Free.length:Int),fSl aB x30,fEq v1,fI ((x7.get a0.Main).getD 0)]) (i:=1) rfl rfl ?_
 refine bB ?_
 refine bZ ?_
 refine fD (φs':=[fI (a0.Free.length:Int),fSl aB x30,fEq v1,fI ((x7.get a0.Main).getD 0)]) (i:=1) rfl rfl ?_
 refine sB 171 (ψ:=eY [fI (a0.Free.length:Int),fEq v8,fEq v1,fI ((x7.get a0.Main).getD 0)]) rfl (rE (i:=1) (φs:=[fI (a0.Free.length:Int),fEq v8,fEq v1,fI ((x7.get a0.Main).getD 0)]) (φs':=[fI (a0.Free.length:Int),fSl aB x30,fEq v1,fI ((x7.get a0.Main).getD 0)]) rfl rfl) ?_
 refine cI ?_
 refine T_fr5 ?_
 refine cJ (φ:=fSl aQ x24) (v:=v1) [] cW (fun _ h=>nomatch h) ?_
 refine bO ?_
 refine bZ ?_
 refine fD (φs':=[fSl aQ x24,fSl aE x2,fSl aG x3,fSl aB x4,fI x5,fSl tI x6,fEq (.map (some b5))]) (i:=0) rfl rfl ?_
 refine bO ?_
 refine bZ ?_
 refine fD (φs':=[fI (a0.Free.length:Int),fSl aB x30,fSl aQ x24,fI ((x7.get a0.Main).getD 0)]) (i:=2) rfl rfl ?_
 refine bO ?_
 refine bZ ?_
 refine fD (φs':=[fI (a0.Free.length:Int),fSl aB x30,fSl aQ x24,fI ((x7.get a0.Main).getD 0)]) (i:=2) rfl rfl ?_
 refine sB 171 (ψ:=eY [fI (a0.Free.length:Int),fSl aB x30,fEq v1,fI ((x7.get a0.Main).getD 0)]) rfl (rE (i:=2) (φs:=[fI (a0.Free.length:Int),fSl aB x30,fEq v1,fI ((x7.get a0.Main).getD 0)]) (φs':=[fI (a0.Free.length:Int),fSl aB x30,fSl aQ x24,fI ((x7.get a0.Main).getD 0)]) rfl rfl) ?_
 refine cI ?_
 cases H
 refine aH [1] (by decide) ?_
 exact aCW rfl (ag rfl) rfl (bA rfl) (bA rfl) Ent.rfl rfl
 exact fk
 kernel_rfl
def oM (a0:List ByteArray) (a1:ByteArray):Nat → Int → Option ((Unit) ⊕ (Bool))
| 0,_=>none
| k+1,x2=>
 if x2<(a0.length:Int)then
  (idx a0 x2).bind fun y1=>
  if y1=a1 then
   (some true).bind fun r=>some (Sum.inr r)
  else
   (chk (x2+1)).bind fun z1=>
   oM a0 a1 k z1
 else
  some (Sum.inl ())
def wR (fuel:Nat) (a0:List ByteArray) (a1:ByteArray):Option (Bool):=
 (oM a0 a1 fuel 0).bind fun o=>match o with
 | Sum.inr r=>some r
 | Sum.inl _=>
 some false
theorem aH7 (fuel:Nat)  (a0:List ByteArray) (a1:ByteArray) (r:Bool) (H:wR fuel a0 a1=some r):FnS Tryz.prog 133 [fSl aE a0,gO a1] [] (aJ r) (fun _=>[]):=by
 unfold wR at H
 refine bS Tryz.func133 rfl Tryz.ntmps133 rfl (fun β=>?_)
 revert H;refine B3 fun o1 H Hr1=>?_
 refine aO (ι:=Unit) (fun i=>o1=Sum.inl ()) (fun i=>[]) (fun i=>[]) ?_ ?_
 refine Z4 ?_
 refine Tl (ι:=Nat × Int) (fun i=>oM a0 a1 i.1 i.2=_) (fun i=>i.1) (fun i=>[(0,fSl aE a0),(1,gO a1),(5,fI i.2)]) (fun i=>[]) (fuel,0) H ?_
 clear H;rintro⟨k1,x2⟩ H
 replace H:oM a0 a1 k1 x2=_:=H
 try dsimp only
 obtain _ | k1:=k1
 rw [oM]at H;cases H
 rw [oM]at H
 refine aI ?_
 revert H;refine I6 (fun c1 H=>?_) fun c1 H=>?_
 refine Z3 ?_
 refine aI ?_
 revert H;refine B4 fun y1 h1 H=>?_
 refine Z3 ?_
 refine Yy (o_eqlS rfl hh hh) ?_
 revert H;refine I1 (fun c2 H=>?_) fun c2 H=>?_
 revert H;refine B10 fun r1 H e1=>?_
 cases e1;cases Hr1
 cases H
 exact To
 revert H;refine B6 fun z1 h2 H=>?_
 refine Z3 ?_
 exact Tm ((k1,z1)) ⟨H,ls⟩
 refine Z6 ?_
 exact Tm (()) (ij H)
 clear H;intro i hi;subst o1;have H:=Hr1;clear Hr1;try dsimp only at H
 try dsimp only
 refine Z4 ?_
 cases H
 exact To
def pM (a0:ByteArray):Nat → Int → Option ((Unit) ⊕ (Bool))
| 0,_=>none
| k+1,x2=>
 if x2<(a0.size:Int)then
  (sidx a0 x2).bind fun z1=>
  if z1<97 then
   (some false).bind fun r=>some (Sum.inr r)
  else
   (sidx a0 x2).bind fun z2=>
   if 122<z2 then
    (some false).bind fun r=>some (Sum.inr r)
   else
    (chk (x2+1)).bind fun z3=>
    pM a0 k z3
 else
  some (Sum.inl ())
def sQ (fuel:Nat) (a0:ByteArray):Option (Bool):=
 if (a0.size:Int)<1 then
  some false
 else
  if 8<(a0.size:Int)then
   some false
  else
   (pM a0 fuel 0).bind fun o=>match o with
   | Sum.inr r=>some r
   | Sum.inl _=>
   (wR fuel [{ data:=#[97,110,100] },{ data:=#[100,101,102] },{ data:=#[101,108,115,101] },{ data:=#[103,111] },{ data:=#[105,102] },{ data:=#[105,110] },{ data:=#[112,108,97,99,101] },{ data:=#[115,116,111,112] },{ data:=#[116,104,101,110] },{ data:=#[119,97,116,99,104] }] a0).bind fun y1=>
   some (!y1)
theorem aBp (fuel:Nat)  (a0:ByteArray) (r:Bool) (H:sQ fuel a0=some r):FnS Tryz.prog 102 [gO a0] [] (aJ r) (fun _=>[]):=by
 unfold sQ at H
 refine bS Tryz.func102 rfl Tryz.ntmps102 rfl (fun β=>?_)
 refine Z3 ?_
 refine aI ?_
 refine Z2 ?_
 refine Yy (sS rfl hh mR) ?_
 revert H;refine I2 (fun c1 H=>?_) fun c1 H=>?_
 refine Z10 ?_
 cases H
 exact To
 refine Z1 ?_
 refine Yg c1 (sS rfl hh mR) ?_
 revert H;refine I3 (fun c2 H=>?_) fun c2 H=>?_
 refine Z5 ?_
 cases H
 exact To
 revert H;refine B3 fun o1 H Hr1=>?_
 refine aO (ι:=Unit) (fun i=>o1=Sum.inl ()) (fun i=>[(0,gO a0)]) (fun i=>[]) ?_ ?_
 refine Z4 ?_
 refine Tl (ι:=Nat × Int) (fun i=>pM a0 i.1 i.2=_) (fun i=>i.1) (fun i=>[(0,gO a0),(3,fI i.2)]) (fun i=>[]) (fuel,0) H ?_
 clear H;rintro⟨k1,x2⟩ H
 replace H:pM a0 k1 x2=_:=H
 try dsimp only
 obtain _ | k1:=k1
 rw [pM]at H;cases H
 rw [pM]at H
 refine aI ?_
 refine Z3 ?_
 refine Yy (sS rfl hh mR) ?_
 revert H;refine I2 (fun c3 H=>?_) fun c3 H=>?_
 refine Z3 ?_
 refine aI ?_
 revert H;refine B4 fun z1 h1 H=>?_
 refine Yy (aAo rfl hh hh mR h1) ?_
 revert H;refine I2 (fun c4 H=>?_) fun c4 H=>?_
 refine Z12 ?_
 revert H;refine B4 fun r1 H e1=>?_
 cases e1;cases Hr1
 cases H
 exact To
 revert H;refine B2 fun z2 h2 H=>?_
 refine Yg c4 (aAo rfl hh hh mR h2) ?_
 revert H;refine I3 (fun c5 H=>?_) fun c5 H=>?_
 revert H;refine B10 fun r2 H e2=>?_
 cases e2;cases Hr1
 cases H
 exact To
 revert H;refine B6 fun z3 h3 H=>?_
 refine Z3 ?_
 exact Tm ((k1,z3)) ⟨H,ls⟩
 refine Z6 ?_
 exact Tm (()) (ij H)
 clear H;intro i hi;subst o1;have H:=Hr1;clear Hr1;try dsimp only at H
 try dsimp only
 refine Z1 ?_
 refine Tn (fV (t:=aE) (xs:=[{ data:=#[97,110,100] },{ data:=#[100,101,102] },{ data:=#[101,108,115,101] },{ data:=#[103,111] },{ data:=#[105,102] },{ data:=#[105,110] },{ data:=#[112,108,97,99,101] },{ data:=#[115,116,111,112] },{ data:=#[116,104,101,110] },{ data:=#[119,97,116,99,104] }]) rfl (et rfl) (bT.cons rfl (has rfl) (cC (aD trivial)) (bT.cons rfl (has rfl) (cC (aD trivial)) (bT.cons rfl (has rfl) (cC (aD trivial)) (bT.cons rfl (has rfl) (cC (aD trivial)) (bT.cons rfl (has rfl) (cC (aD trivial)) (bT.cons rfl (has rfl) (cC (aD trivial)) (bT.cons rfl (has rfl) (cC (aD trivial)) (bT.cons rfl (has rfl) (cC (aD trivial)) (bT.cons rfl (has rfl) (cC (aD trivial)) (bT.cons rfl (has rfl) (cC (aD trivial)) bT.nil)))))))))) rfl rfl rfl) fun b1=>?_
 generalize (Value.slice (some ⟨b1,0,none⟩) _ _)=v1
 refine aF 0 rfl (fun hc_v1=>?_)
 refine Z1 ?_
 refine cJ (φ:=fSl aE [{ data:=#[97,110,100] },{ data:=#[100,101,102] },{ data:=#[101,108,115,101] },{ data:=#[103,111] },{ data:=#[105,102] },{ data:=#[105,110] },{ data:=#[112,108,97,99,101] },{ data:=#[115,116,111,112] },{ data:=#[116,104,101,110] },{ data:=#[119,97,116,99,104] }]) (v:=v1) [28] cW fz ?_
 refine cI ?_
 revert H;refine bs fun y1 h4 H=>?_
 refine Tc (aH7 _ _ _ _ h4) ?_
 refine Z4 ?_
 cases H
 exact To
open Go.SX Go.SW Go.Dt
def mX (a0:ScopeDef):Nat → Int → Option ((Unit) ⊕ (Bool))
| 0,_=>none
| k+1,x2=>
 if x2<(a0.Chans.length:Int)then
  (idx a0.Chans x2).bind fun y1=>
  if y1.At<0 then
   (some false).bind fun r=>some (Sum.inr r)
  else
   (idx a0.Chans x2).bind fun y2=>
   if (a0.Spots.length:Int)<y2.At then
    (some false).bind fun r=>some (Sum.inr r)
   else
    (idx a0.Chans x2).bind fun y3=>
    if y3.Many<0 then
     (some false).bind fun r=>some (Sum.inr r)
    else
     (idx a0.Chans x2).bind fun y4=>
     if 3<y4.Many then
      (some false).bind fun r=>some (Sum.inr r)
     else
      (chk (x2+1)).bind fun z1=>
      mX a0 k z1
 else
  some (Sum.inl ())
def nY (a0:ScopeDef):Nat → Int → Option ((Unit) ⊕ (Bool))
| 0,_=>none
| k+1,x4=>
 if x4<(a0.Spots.length:Int)then
  (idx a0.Spots x4).bind fun y5=>
  if y5.In<0 then
   (some false).bind fun r=>some (Sum.inr r)
  else
   (idx a0.Spots x4).bind fun y6=>
   if x4<y6.In then
    (some false).bind fun r=>some (Sum.inr r)
   else
    (chk (x4+1)).bind fun z2=>
    nY a0 k z2
 else
  some (Sum.inl ())
def mT (y8:ScopeRule) (x14:Int) (y9:Int):Nat → Int → Option ((Unit) ⊕ ((List Bool) ⊕ ((List Bool) ⊕ ((List Bool) ⊕ (Bool)))))
| 0,_=>none
| k+1,x17=>
 if x17<x14 then
  (idx y8.Joins x17).bind fun y11=>
  if y11=y9 then
   ((((some false).bind fun r=>some (Sum.inr r)).bind fun r=>some (Sum.inr r)).bind fun r=>some (Sum.inr r)).bind fun r=>some (Sum.inr r)
  else
   (chk (x17+1)).bind fun z3=>
   mT y8 x14 y9 k z3
 else
  some (Sum.inl ())
def kE (fuel:Nat) (a0:ScopeDef) (y8:ScopeRule):Nat → (List Bool) → Int → Option ((List Bool) ⊕ ((List Bool) ⊕ (Bool)))
| 0,_,_=>none
| k+1,x13,x14=>
 if x14<(y8.Joins.length:Int)then
  ((idx y8.Joins x14).bind fun y9=>
  if y9<0 then
   (((some false).bind fun r=>some (Sum.inr r)).bind fun r=>some (Sum.inr r)).bind fun r=>some (Sum.inr r)
  else
   if (a0.Chans.length:Int) ≤ y9 then
    (((some false).bind fun r=>some (Sum.inr r)).bind fun r=>some (Sum.inr r)).bind fun r=>some (Sum.inr r)
   else
    (idx a0.Chans y9).bind fun y10=>
    if y10.At≠y8.At then
     (((some false).bind fun r=>some (Sum.inr r)).bind fun r=>some (Sum.inr r)).bind fun r=>some (Sum.inr r)
    else
     (mT y8 x14 y9 fuel 0).bind fun o=>match o with
     | Sum.inr r=>some r
     | Sum.inl _=>
     (idx x13 y9).bind fun y12=>
     some (Sum.inl (x13.set y9.toNat true))).bind fun o=>match o with
  | Sum.inr r=>some r
  | Sum.inl x15=>
  (chk (x14+1)).bind fun z4=>
  kE fuel a0 y8 k x15 z4
 else
  some (Sum.inl x13)
def lM (fuel:Nat) (a0:ScopeDef):Nat → (List Bool) → Int → Option ((List Bool) ⊕ (Bool))
| 0,_,_=>none
| k+1,x8,x9=>
 if x9<(a0.Rules.length:Int)then
  ((idx a0.Rules x9).bind fun y8=>
  if y8.At<0 then
   ((some false).bind fun r=>some (Sum.inr r)).bind fun r=>some (Sum.inr r)
  else
   if (a0.Spots.length:Int)<y8.At then
    ((some false).bind fun r=>some (Sum.inr r)).bind fun r=>some (Sum.inr r)
   else
    if (y8.Joins.length:Int)<1 then
     ((some false).bind fun r=>some (Sum.inr r)).bind fun r=>some (Sum.inr r)
    else
     if 3<(y8.Joins.length:Int)then
      ((some false).bind fun r=>some (Sum.inr r)).bind fun r=>some (Sum.inr r)
     else
      kE fuel a0 y8 fuel x8 0).bind fun o=>match o with
  | Sum.inr r=>some r
  | Sum.inl x10=>
  (chk (x9+1)).bind fun z5=>
  lM fuel a0 k x10 z5
 else
  some (Sum.inl x8)
def oB (x5:List Bool):Nat → Int → Option ((Unit) ⊕ (Bool))
| 0,_=>none
| k+1,x19=>
 if x19<(x5.length:Int)then
  (idx x5 x19).bind fun y13=>
  bif y13 then
   (chk (x19+1)).bind fun z6=>
   oB x5 k z6
  else
   (some false).bind fun r=>some (Sum.inr r)
 else
  some (Sum.inl ())
def xL (fuel:Nat) (a0:ScopeDef):Option (Bool):=
 if 30<(a0.Chans.length:Int)then
  some false
 else
  if 30<(a0.Spots.length:Int)then
   some false
  else
   if 30<(a0.Rules.length:Int)then
    some false
   else
    (mX a0 fuel 0).bind fun o=>match o with
    | Sum.inr r=>some r
    | Sum.inl _=>
    (nY a0 fuel 0).bind fun o=>match o with
    | Sum.inr r=>some r
    | Sum.inl _=>
    (mk false (a0.Chans.length:Int)).bind fun y7=>
    (lM fuel a0 fuel y7 0).bind fun o=>match o with
    | Sum.inr r=>some r
    | Sum.inl x5=>
    (oB x5 fuel 0).bind fun o=>match o with
    | Sum.inr r=>some r
    | Sum.inl _=>
    some true
theorem aGi (fuel:Nat)  (a0:ScopeDef) (r:Bool) (H:xL fuel a0=some r):FnS Tryz.prog 103 [fSt aB a0] [] (aJ r) (fun _=>[]):=by
 unfold xL at H
 refine bS Tryz.func103 rfl Tryz.ntmps103 rfl (fun β=>?_)
 refine Z1 ?_
 refine lA trivial rfl rfl (cO rfl (has rfl) bW) (fun b1=>?_)
 refine Z2 ?_
 refine aI ?_
 refine Z6 ?_
 revert H;refine is (fun c1 H=>?_) fun c1 H=>?_
 refine Yt c1 ?_
 refine Yt c1 ?_
 refine Yt c1 ?_
 refine Yt c1 ?_
 refine Yy (dD rfl hh c1 hh) ?_
 refine Z12 ?_
 cases H
 refine aH [] (by decide) ?_
 exact dQ rfl (bA rfl) rfl
 refine Yg c1 (cA 1 rfl hh (fa rfl) rfl) ?_
 refine Yh 0 rfl c1 (bK rfl hh (sc rfl) rfl Ent.rfl) ?_
 refine Yg c1 (fS rfl hh (us rfl)) ?_
 refine Yg c1 (gP rfl hh hh) ?_
 refine Yy (cH rfl hh c1 hh) ?_
 refine Z1 ?_
 revert H;refine is (fun c2 H=>?_) fun c2 H=>?_
 refine Yt c2 ?_
 refine Yt c2 ?_
 refine Yt c2 ?_
 refine Yt c2 ?_
 refine Yy (dD rfl hh c2 hh) ?_
 refine Z6 ?_
 cases H
 refine aH [] (by decide) ?_
 exact dQ rfl (bA rfl) rfl
 refine Yg c2 (cA 2 rfl hh (fa rfl) rfl) ?_
 refine Yh 0 rfl c2 (bK rfl hh (sc rfl) rfl Ent.rfl) ?_
 refine Yg c2 (fS rfl hh (us rfl)) ?_
 refine Yg c2 (gP rfl hh hh) ?_
 refine Yy (cH rfl hh c2 hh) ?_
 refine Z1 ?_
 revert H;refine is (fun c3 H=>?_) fun c3 H=>?_
 refine dO hh c3 ?_
 refine Z4 ?_
 cases H
 refine aH [] (by decide) ?_
 exact dQ rfl (bA rfl) rfl
 refine dJ hh c3 ?_
 refine Z2 ?_
 revert H;refine bs fun o1 H Hr1=>?_
 refine aO (ι:=Unit) (fun i=>o1=Sum.inl ()) (fun i=>[(1,fEq (ptr b1))]) (fun i=>[aA b1 63 [fSl aS a0.Chans,fSl aY a0.Spots,fSl aZ a0.Rules]]) ?_ ?_
 refine Z4 ?_
 refine gN (ι:=Nat × Int) (fun i=>mX a0 i.1 i.2=_) (fun i=>i.1) (fun i=>[(1,fEq (ptr b1)),(3,fI i.2)]) (fun i=>[aA b1 63 [fSl aS a0.Chans,fSl aY a0.Spots,fSl aZ a0.Rules]]) (fuel,0) H (Sc (Sc aX.nil)) rfl ?_
 clear H;rintro⟨k1,x2⟩ H
 replace H:mX a0 k1 x2=_:=H
 try dsimp only
 obtain _ | k1:=k1
 rw [mX]at H;cases H
 rw [mX]at H
 refine aI ?_
 refine Z7 ?_
 revert H;refine is (fun c4 H=>?_) fun c4 H=>?_
 refine dO hh c4 ?_
 refine Z2 ?_
 refine aI ?_
 refine Z1 ?_
 refine aI ?_
 revert H;refine bs fun y1 h1 H=>?_
 revert H;refine is (fun c5 H=>?_) fun c5 H=>?_
 apply bE (ods:=[_,_,_,_,_,_,_,_,_,_,_,_,_,_,_,_,_,_,_,_,_,_,_,_,_,_,_,_,_,_,_,_,_,_,_,_,_]) 37 0 1 bD rfl rfl rfl
 refine ND ?_
 refine M3 ?_
 intros
 refine My (dF rfl hh hh (el rfl) h1) fun _=>?_
 refine M4 ?_
 intros
 refine Mt c5 fun _=>?_
 refine Mt c5 fun _=>?_
 refine Mt c5 fun _=>?_
 refine Mt c5 fun _=>?_
 refine Mt c5 fun _=>?_
 refine Mt c5 fun _=>?_
 refine Mt c5 fun _=>?_
 refine Mt c5 fun _=>?_
 refine Mt c5 fun _=>?_
 refine Mt c5 fun _=>?_
 refine My (dD rfl hh c5 hh) fun _=>?_
 refine M8 ?_
 intros
 refine M8 ?_
 intros
 refine M2 ?_
 intros
 refine Z12 ?_
 revert H;refine bs fun r1 H e1=>?_
 have e1:=Option.some.inj e1;subst e1;have Hr1:=Option.some.inj Hr1;subst Hr1
 cases H
 refine aH [] (by decide) ?_
 exact dQ rfl (bA rfl) rfl
 exact fk
 kernel_rfl
 revert H;refine bs fun y2 h2 H=>?_
 revert H;refine is (fun c6 H=>?_) fun c6 H=>?_
 apply bE (ods:=[_,_,_,_,_,_,_,_,_,_,_,_,_,_,_,_,_,_,_,_,_,_,_,_,_,_,_,_,_,_,_,_,_,_,_,_,_]) 37 0 1 bD rfl rfl rfl
 refine ND ?_
 refine M3 ?_
 intros
 refine My (dF rfl hh hh (el rfl) h1) fun _=>?_
 refine M4 ?_
 intros
 refine Mg c5 (cA 0 rfl hh (fa rfl) rfl) fun _=>?_
 refine dX (od:=odC [0] false (fSl aS a0.Chans) [cX]) (ps:=[0]) (φ:=fSl aS a0.Chans) rfl (fun _=>rfl) ⟨_,_,rfl,rfl,c5⟩ rfl rfl (bK rfl hh (sc rfl) rfl Ent.rfl) (fun _=>?_)
 refine Mg c5 (cG rfl hh) fun _=>?_
 refine Mg c5 (dF rfl hh hh (el rfl) h2) fun _=>?_
 refine Mg c5 (jF (t':=tI) (z:=y2.At) rfl hh (fa rfl) rfl) fun _=>?_
 refine Mg c5 (gW rfl hh (sc rfl) rfl) fun _=>?_
 refine Mg c5 (cA 1 rfl hh (fa rfl) rfl) fun _=>?_
 refine dX (od:=odC [0] false (fSl aY a0.Spots) [cX]) (ps:=[0]) (φ:=fSl aY a0.Spots) rfl (fun _=>rfl) ⟨_,_,rfl,rfl,c5⟩ rfl rfl (bK rfl hh (sc rfl) rfl Ent.rfl) (fun _=>?_)
 refine Mg c5 (fS rfl hh (us rfl)) fun _=>?_
 refine Mg c5 (gP rfl hh hh) fun _=>?_
 refine My (cH rfl hh c5 hh) fun _=>?_
 refine M1 ?_
 intros
 refine Mt c6 fun _=>?_
 refine Mt c6 fun _=>?_
 refine Mt c6 fun _=>?_
 refine Mt c6 fun _=>?_
 refine Mt c6 fun _=>?_
 refine Mt c6 fun _=>?_
 refine Mt c6 fun _=>?_
 refine My (dD rfl hh c6 hh) fun _=>?_
 refine M8 ?_
 intros
 refine M1 ?_
 intros
 refine Z12 ?_
 revert H;refine bs fun r2 H e2=>?_
 have e2:=Option.some.inj e2;subst e2;have Hr1:=Option.some.inj Hr1;subst Hr1
 cases H
 refine aH [] (by decide) ?_
 exact dQ rfl (bA rfl) rfl
 exact fk
 kernel_rfl
 revert H;refine bs fun y3 h3 H=>?_
 revert H;refine is (fun c7 H=>?_) fun c7 H=>?_
 apply bE (ods:=[_,_,_,_,_,_,_,_,_,_,_,_,_,_,_,_,_,_,_,_,_,_,_,_,_,_,_,_,_,_,_,_,_,_,_,_,_]) 37 0 1 bD rfl rfl rfl
 refine ND ?_
 refine M3 ?_
 intros
 refine My (dF rfl hh hh (el rfl) h1) fun _=>?_
 refine M4 ?_
 intros
 refine Mg c5 (cA 0 rfl hh (fa rfl) rfl) fun _=>?_
 refine dX (od:=odC [0] false (fSl aS a0.Chans) [cX]) (ps:=[0]) (φ:=fSl aS a0.Chans) rfl (fun _=>rfl) ⟨_,_,rfl,rfl,c5⟩ rfl rfl (bK rfl hh (sc rfl) rfl Ent.rfl) (fun _=>?_)
 refine Mg c5 (cG rfl hh) fun _=>?_
 refine Mg c5 (dF rfl hh hh (el rfl) h2) fun _=>?_
 refine Mg c5 (jF (t':=tI) (z:=y2.At) rfl hh (fa rfl) rfl) fun _=>?_
 refine Mg c5 (gW rfl hh (sc rfl) rfl) fun _=>?_
 refine Mg c5 (cA 1 rfl hh (fa rfl) rfl) fun _=>?_
 refine dX (od:=odC [0] false (fSl aY a0.Spots) [cX]) (ps:=[0]) (φ:=fSl aY a0.Spots) rfl (fun _=>rfl) ⟨_,_,rfl,rfl,c5⟩ rfl rfl (bK rfl hh (sc rfl) rfl Ent.rfl) (fun _=>?_)
 refine Mg c5 (fS rfl hh (us rfl)) fun _=>?_
 refine Mg c5 (gP rfl hh hh) fun _=>?_
 refine My (cH rfl hh c5 hh) fun _=>?_
 refine M1 ?_
 intros
 refine Mg c6 (cA 0 rfl hh (fa rfl) rfl) fun _=>?_
 refine dX (od:=odC [0] false (fSl aS a0.Chans) [cX]) (ps:=[0]) (φ:=fSl aS a0.Chans) rfl (fun _=>rfl) ⟨_,_,rfl,rfl,c6⟩ rfl rfl (bK rfl hh (sc rfl) rfl Ent.rfl) (fun _=>?_)
 refine Mg c6 (cG rfl hh) fun _=>?_
 refine Mg c6 (dF rfl hh hh (el rfl) h3) fun _=>?_
 refine Mg c6 (jF (t':=tI) (z:=y3.Many) rfl hh (fa rfl) rfl) fun _=>?_
 refine Mg c6 (gW rfl hh (sc rfl) rfl) fun _=>?_
 refine Mg c6 (uZ rfl hh hh) fun _=>?_
 refine My (cH rfl hh c6 hh) fun _=>?_
 refine M1 ?_
 intros
 refine Mt c7 fun _=>?_
 refine Mt c7 fun _=>?_
 refine Mt c7 fun _=>?_
 refine Mt c7 fun _=>?_
 refine Mt c7 fun _=>?_
 refine Mt c7 fun _=>?_
 refine Mt c7 fun _=>?_
 refine My (dD rfl hh c7 hh) fun _=>?_
 refine Z12 ?_
 revert H;refine bs fun r3 H e3=>?_
 have e3:=Option.some.inj e3;subst e3;have Hr1:=Option.some.inj Hr1;subst Hr1
 cases H
 refine aH [] (by decide) ?_
 exact dQ rfl (bA rfl) rfl
 exact fk
 kernel_rfl
 revert H;refine bs fun y4 h4 H=>?_
 apply bE (ods:=[_,_,_,_,_,_,_,_,_,_,_,_,_,_,_,_,_,_,_,_,_,_,_,_,_,_,_,_,_,_,_,_,_,_,_,_,_]) 37 0 1 bD rfl rfl rfl
 refine ND ?_
 refine M3 ?_
 intros
 refine My (dF rfl hh hh (el rfl) h1) fun _=>?_
 refine M4 ?_
 intros
 refine Mg c5 (cA 0 rfl hh (fa rfl) rfl) fun _=>?_
 refine dX (od:=odC [0] false (fSl aS a0.Chans) [cX]) (ps:=[0]) (φ:=fSl aS a0.Chans) rfl (fun _=>rfl) ⟨_,_,rfl,rfl,c5⟩ rfl rfl (bK rfl hh (sc rfl) rfl Ent.rfl) (fun _=>?_)
 refine Mg c5 (cG rfl hh) fun _=>?_
 refine Mg c5 (dF rfl hh hh (el rfl) h2) fun _=>?_
 refine Mg c5 (jF (t':=tI) (z:=y2.At) rfl hh (fa rfl) rfl) fun _=>?_
 refine Mg c5 (gW rfl hh (sc rfl) rfl) fun _=>?_
 refine Mg c5 (cA 1 rfl hh (fa rfl) rfl) fun _=>?_
 refine dX (od:=odC [0] false (fSl aY a0.Spots) [cX]) (ps:=[0]) (φ:=fSl aY a0.Spots) rfl (fun _=>rfl) ⟨_,_,rfl,rfl,c5⟩ rfl rfl (bK rfl hh (sc rfl) rfl Ent.rfl) (fun _=>?_)
 refine Mg c5 (fS rfl hh (us rfl)) fun _=>?_
 refine Mg c5 (gP rfl hh hh) fun _=>?_
 refine My (cH rfl hh c5 hh) fun _=>?_
 refine M1 ?_
 intros
 refine Mg c6 (cA 0 rfl hh (fa rfl) rfl) fun _=>?_
 refine dX (od:=odC [0] false (fSl aS a0.Chans) [cX]) (ps:=[0]) (φ:=fSl aS a0.Chans) rfl (fun _=>rfl) ⟨_,_,rfl,rfl,c6⟩ rfl rfl (bK rfl hh (sc rfl) rfl Ent.rfl) (fun _=>?_)
 refine Mg c6 (cG rfl hh) fun _=>?_
 refine Mg c6 (dF rfl hh hh (el rfl) h3) fun _=>?_
 refine Mg c6 (jF (t':=tI) (z:=y3.Many) rfl hh (fa rfl) rfl) fun _=>?_
 refine Mg c6 (gW rfl hh (sc rfl) rfl) fun _=>?_
 refine Mg c6 (uZ rfl hh hh) fun _=>?_
 refine My (cH rfl hh c6 hh) fun _=>?_
 refine M1 ?_
 intros
 refine Mg c7 (cA 0 rfl hh (fa rfl) rfl) fun _=>?_
 refine dX (od:=odC [0] false (fSl aS a0.Chans) [cX]) (ps:=[0]) (φ:=fSl aS a0.Chans) rfl (fun _=>rfl) ⟨_,_,rfl,rfl,c7⟩ rfl rfl (bK rfl hh (sc rfl) rfl Ent.rfl) (fun _=>?_)
 refine Mg c7 (cG rfl hh) fun _=>?_
 refine Mg c7 (dF rfl hh hh (el rfl) h4) fun _=>?_
 refine Mg c7 (jF (t':=tI) (z:=y4.Many) rfl hh (fa rfl) rfl) fun _=>?_
 refine Mg c7 (gW rfl hh (sc rfl) rfl) fun _=>?_
 refine Mg c7 (gP rfl hh hh) fun _=>?_
 refine My (cH rfl hh c7 hh) fun _=>?_
 refine Z2 ?_
 revert H;refine is (fun c8 H=>?_) fun c8 H=>?_
 refine dO hh c8 ?_
 refine Z9 ?_
 revert H;refine bs fun r4 H e4=>?_
 have e4:=Option.some.inj e4;subst e4;have Hr1:=Option.some.inj Hr1;subst Hr1
 cases H
 refine aH [] (by decide) ?_
 exact dQ rfl (bA rfl) rfl
 refine dJ hh c8 ?_
 refine Z5 ?_
 revert H;refine bs fun z1 h5 H=>?_
 refine Yy (fN rfl hh hh h5) ?_
 refine Z2 ?_
 exact bR ((k1,z1)) ⟨H,Nat.lt_succ_self _⟩ (Sc (Sc aX.nil)) rfl
 exact fk
 kernel_rfl
 refine dJ hh c4 ?_
 refine Z5 ?_
 exact bR (()) (Option.some.inj H).symm (Sc aX.nil) rfl
 clear H;intro i hi;subst o1;have H:=Hr1;clear Hr1;try dsimp only at H
 try dsimp only
 revert H;refine bs fun o2 H Hr2=>?_
 refine aO (ι:=Unit) (fun i=>o2=Sum.inl ()) (fun i=>[(1,fEq (ptr b1))]) (fun i=>[aA b1 63 [fSl aS a0.Chans,fSl aY a0.Spots,fSl aZ a0.Rules]]) ?_ ?_
 refine Z4 ?_
 refine gN (ι:=Nat × Int) (fun i=>nY a0 i.1 i.2=_) (fun i=>i.1) (fun i=>[(1,fEq (ptr b1)),(4,fI i.2)]) (fun i=>[aA b1 63 [fSl aS a0.Chans,fSl aY a0.Spots,fSl aZ a0.Rules]]) (fuel,0) H (Sc (Sc aX.nil)) rfl ?_
 clear H;rintro⟨k2,x4⟩ H
 replace H:nY a0 k2 x4=_:=H
 try dsimp only
 obtain _ | k2:=k2
 rw [nY]at H;cases H
 rw [nY]at H
 refine aI ?_
 refine Z7 ?_
 revert H;refine is (fun c9 H=>?_) fun c9 H=>?_
 refine dO hh c9 ?_
 refine Z2 ?_
 refine aI ?_
 refine Z5 ?_
 revert H;refine bs fun y5 h6 H=>?_
 refine Yy (dF rfl hh hh (el rfl) h6) ?_
 refine Z4 ?_
 revert H;refine is (fun c10 H=>?_) fun c10 H=>?_
 refine Yt c10 ?_
 refine Yt c10 ?_
 refine Yt c10 ?_
 refine Yt c10 ?_
 refine Yt c10 ?_
 refine Yt c10 ?_
 refine Yt c10 ?_
 refine Yt c10 ?_
 refine Yy (dD rfl hh c10 hh) ?_
 refine Z11 ?_
 revert H;refine bs fun r5 H e5=>?_
 have e5:=Option.some.inj e5;subst e5;have Hr2:=Option.some.inj Hr2;subst Hr2
 cases H
 refine aH [] (by decide) ?_
 exact dQ rfl (bA rfl) rfl
 refine Yg c10 (cA 1 rfl hh (fa rfl) rfl) ?_
 refine Yh 0 rfl c10 (bK rfl hh (sc rfl) rfl Ent.rfl) ?_
 refine Yg c10 (cG rfl hh) ?_
 revert H;refine bs fun y6 h7 H=>?_
 refine Yg c10 (dF rfl hh hh (el rfl) h7) ?_
 refine Yg c10 (jF (t':=tI) (z:=y6.In) rfl hh (fa rfl) rfl) ?_
 refine Yg c10 (gW rfl hh (sc rfl) rfl) ?_
 refine Yg c10 (cG rfl hh) ?_
 refine Yg c10 (gP rfl hh hh) ?_
 refine Yy (cH rfl hh c10 hh) ?_
 refine Z1 ?_
 revert H;refine is (fun c11 H=>?_) fun c11 H=>?_
 refine dO hh c11 ?_
 refine Z9 ?_
 revert H;refine bs fun r6 H e6=>?_
 have e6:=Option.some.inj e6;subst e6;have Hr2:=Option.some.inj Hr2;subst Hr2
 cases H
 refine aH [] (by decide) ?_
 exact dQ rfl (bA rfl) rfl
 refine dJ hh c11 ?_
 refine Z5 ?_
 revert H;refine bs fun z2 h8 H=>?_
 refine Yy (fN rfl hh hh h8) ?_
 refine Z2 ?_
 exact bR ((k2,z2)) ⟨H,Nat.lt_succ_self _⟩ (Sc (Sc aX.nil)) rfl
 refine dJ hh c9 ?_
 refine Z5 ?_
 exact bR (()) (Option.some.inj H).symm (Sc aX.nil) rfl
 clear H;intro i hi;subst o2;have H:=Hr2;clear Hr2;try dsimp only at H
 try dsimp only
 refine Z4 ?_
 revert H;refine bs fun y7 h9 H=>?_
 refine lA trivial rfl rfl (nW (t:=bF) (z:=false) rfl (has rfl) (et rfl) rfl aAm rfl h9) (fun b2=>?_)
 generalize (Value.slice (some ⟨b2,0,none⟩) _ _)=v1
 refine aF 0 rfl (fun hc_v1=>?_)
 refine Z2 ?_
 revert H;refine bs fun o3 H Hr3=>?_
 refine aO (ι:=List Bool) (fun i=>o3=Sum.inl i) (fun i=>[(5,fEq v1)]) (fun i=>[aA b1 63 [fSl aS a0.Chans,fSl aY a0.Spots,fSl aZ a0.Rules],aC v1 4 bF i]) ?_ ?_
 refine Z4 ?_
 refine aH [1,0] (by decide) ?_
 refine gN (ι:=Nat × List Bool × Int) (fun i=>lM fuel a0 i.1 i.2.1 i.2.2=_) (fun i=>i.1) (fun i=>[(1,fEq (ptr b1)),(5,fEq v1),(6,fI i.2.2)]) (fun i=>[aA b1 63 [fSl aS a0.Chans,fSl aY a0.Spots,fSl aZ a0.Rules],aC v1 4 bF i.2.1]) (fuel,y7,0) H (Sc (Sc (Sc aX.nil))) rfl ?_
 clear H;rintro⟨k3,x8,x9⟩ H
 replace H:lM fuel a0 k3 x8 x9=_:=H
 try dsimp only
 obtain _ | k3:=k3
 rw [lM]at H;cases H
 rw [lM]at H
 refine aI ?_
 refine Z7 ?_
 revert H;refine is (fun c12 H=>?_) fun c12 H=>?_
 refine dO hh c12 ?_
 refine Z2 ?_
 revert H;refine bs fun o4 H Hr4=>?_
 refine aO (ι:=List Bool) (fun i=>o4=Sum.inl i) (fun i=>[(1,fEq (ptr b1)),(5,fEq v1),(6,fI x9)]) (fun i=>[aA b1 63 [fSl aS a0.Chans,fSl aY a0.Spots,fSl aZ a0.Rules],aC v1 4 bF i]) ?_ ?_
 refine Z5 ?_
 revert H;refine bs fun y8 h10 H=>?_
 refine Yy (dF rfl hh hh (el rfl) h10) ?_
 refine Z1 ?_
 refine lA trivial rfl rfl (cV rfl pY rfl) (fun b3=>?_)
 refine dR (φs':=[fI y8.At,fSl tI y8.Joins,fI y8.Node]) trivial rfl rfl (has rfl) (has rfl) (aK (aD trivial) (aK (bU) (aK (aD trivial) bY))) (sz rfl) rfl rfl rfl ?_
 refine Z1 ?_
 refine aI ?_
 refine Z5 ?_
 revert H;refine is (fun c13 H=>?_) fun c13 H=>?_
 refine Yt c13 ?_
 refine Yt c13 ?_
 refine Yt c13 ?_
 refine Yt c13 ?_
 refine Yt c13 ?_
 refine Yt c13 ?_
 refine Yy (dD rfl hh c13 hh) ?_
 refine Z12 ?_
 refine Z8 ?_
 revert H;refine bs fun r7 H e7=>?_
 have e7:=Option.some.inj e7;subst e7;have Hr4:=Option.some.inj Hr4;subst Hr4
 refine Z3 ?_
 revert H;refine bs fun r8 H e8=>?_
 have e8:=Option.some.inj e8;subst e8;have Hr3:=Option.some.inj Hr3;subst Hr3
 cases H
 refine aH [] (by decide) ?_
 exact dQ rfl (bA rfl) rfl
 refine Yg c13 (cA 0 rfl hh (fa rfl) rfl) ?_
 refine Yh 0 rfl c13 (bK rfl hh (sc rfl) rfl Ent.rfl) ?_
 refine Yg c13 (cA 1 rfl hh (fa rfl) rfl) ?_
 refine Yh 1 rfl c13 (bK rfl hh (sc rfl) rfl Ent.rfl) ?_
 refine Yg c13 (fS rfl hh (us rfl)) ?_
 refine Yg c13 (gP rfl hh hh) ?_
 refine Yy (cH rfl hh c13 hh) ?_
 refine Z1 ?_
 revert H;refine is (fun c14 H=>?_) fun c14 H=>?_
 refine Yt c14 ?_
 refine Yt c14 ?_
 refine Yt c14 ?_
 refine Yt c14 ?_
 refine Yy (dD rfl hh c14 hh) ?_
 refine Z12 ?_
 refine Z2 ?_
 revert H;refine bs fun r9 H e9=>?_
 have e9:=Option.some.inj e9;subst e9;have Hr4:=Option.some.inj Hr4;subst Hr4
 refine Z3 ?_
 revert H;refine bs fun r10 H e10=>?_
 have e10:=Option.some.inj e10;subst e10;have Hr3:=Option.some.inj Hr3;subst Hr3
 cases H
 refine aH [] (by decide) ?_
 exact dQ rfl (bA rfl) rfl
 refine Yg c14 (cA 1 rfl hh (fa rfl) rfl) ?_
 refine Yh 0 rfl c14 (bK rfl hh (sc rfl) rfl Ent.rfl) ?_
 refine Yg c14 (fS rfl hh (us rfl)) ?_
 refine Yg c14 (uZ rfl hh hh) ?_
 refine Yy (cH rfl hh c14 hh) ?_
 refine Z1 ?_
 revert H;refine is (fun c15 H=>?_) fun c15 H=>?_
 refine Yt c15 ?_
 refine Yt c15 ?_
 refine Yt c15 ?_
 refine Yt c15 ?_
 refine Yy (dD rfl hh c15 hh) ?_
 refine Z8 ?_
 revert H;refine bs fun r11 H e11=>?_
 have e11:=Option.some.inj e11;subst e11;have Hr4:=Option.some.inj Hr4;subst Hr4
 refine Z3 ?_
 revert H;refine bs fun r12 H e12=>?_
 have e12:=Option.some.inj e12;subst e12;have Hr3:=Option.some.inj Hr3;subst Hr3
 cases H
 refine aH [] (by decide) ?_
 exact dQ rfl (bA rfl) rfl
 refine Yg c15 (cA 1 rfl hh (fa rfl) rfl) ?_
 refine Yh 0 rfl c15 (bK rfl hh (sc rfl) rfl Ent.rfl) ?_
 refine Yg c15 (fS rfl hh (us rfl)) ?_
 refine Yg c15 (gP rfl hh hh) ?_
 refine Yy (cH rfl hh c15 hh) ?_
 refine Z1 ?_
 revert H;refine is (fun c16 H=>?_) fun c16 H=>?_
 refine dO hh c16 ?_
 refine Z6 ?_
 revert H;refine bs fun r13 H e13=>?_
 have e13:=Option.some.inj e13;subst e13;have Hr4:=Option.some.inj Hr4;subst Hr4
 refine Z3 ?_
 revert H;refine bs fun r14 H e14=>?_
 have e14:=Option.some.inj e14;subst e14;have Hr3:=Option.some.inj Hr3;subst Hr3
 cases H
 refine aH [] (by decide) ?_
 exact dQ rfl (bA rfl) rfl
 refine dJ hh c16 ?_
 refine Z6 ?_
 refine gN (ι:=Nat × List Bool × Int) (fun i=>kE fuel a0 y8 i.1 i.2.1 i.2.2=_) (fun i=>i.1) (fun i=>[(1,fEq (ptr b1)),(5,fEq v1),(6,fI x9),(7,fEq (ptr b3)),(8,fI i.2.2)]) (fun i=>[aA b3 114 [fI y8.At,fSl tI y8.Joins,fI y8.Node],aA b1 63 [fSl aS a0.Chans,fSl aY a0.Spots,fSl aZ a0.Rules],aC v1 4 bF i.2.1]) (fuel,x8,0) H (Sc (Sc (Sc (Sc (Sc aX.nil))))) rfl ?_
 clear H;rintro⟨k4,x13,x14⟩ H
 replace H:kE fuel a0 y8 k4 x13 x14=_:=H
 try dsimp only
 obtain _ | k4:=k4
 rw [kE]at H;cases H
 rw [kE]at H
 refine aI ?_
 refine Z7 ?_
 revert H;refine is (fun c17 H=>?_) fun c17 H=>?_
 refine dO hh c17 ?_
 refine Z2 ?_
 revert H;refine bs fun o5 H Hr5=>?_
 refine aO (ι:=List Bool) (fun i=>o5=Sum.inl i) (fun i=>[(1,fEq (ptr b1)),(5,fEq v1),(6,fI x9),(7,fEq (ptr b3)),(8,fI x14)]) (fun i=>[aA b3 114 [fI y8.At,fSl tI y8.Joins,fI y8.Node],aA b1 63 [fSl aS a0.Chans,fSl aY a0.Spots,fSl aZ a0.Rules],aC v1 4 bF i]) ?_ ?_
 refine Z5 ?_
 revert H;refine bs fun y9 h11 H=>?_
 refine Yy (dF rfl hh hh (el rfl) h11) ?_
 refine Z3 ?_
 refine aI ?_
 refine aI ?_
 revert H;refine is (fun c18 H=>?_) fun c18 H=>?_
 apply bE (ods:=[_,_,_,_,_,_,_,_,_,_,_,_,_,_,_,_,_,_,_,_]) 20 0 3 bD rfl rfl rfl
 refine ND ?_
 refine M3 ?_
 intros
 refine Mt c18 fun _=>?_
 refine Mt c18 fun _=>?_
 refine Mt c18 fun _=>?_
 refine Mt c18 fun _=>?_
 refine Mt c18 fun _=>?_
 refine My (dD rfl hh c18 hh) fun _=>?_
 refine M8 ?_
 intros
 refine M3 ?_
 intros
 refine Z9 ?_
 revert H;refine bs fun r15 H e15=>?_
 have e15:=Option.some.inj e15;subst e15;have Hr5:=Option.some.inj Hr5;subst Hr5
 refine Z4 ?_
 revert H;refine bs fun r16 H e16=>?_
 have e16:=Option.some.inj e16;subst e16;have Hr4:=Option.some.inj Hr4;subst Hr4
 refine Z3 ?_
 revert H;refine bs fun r17 H e17=>?_
 have e17:=Option.some.inj e17;subst e17;have Hr3:=Option.some.inj Hr3;subst Hr3
 cases H
 refine aH [] (by decide) ?_
 exact dQ rfl (bA rfl) rfl
 exact fk
 kernel_rfl
 revert H;refine is (fun c19 H=>?_) fun c19 H=>?_
 apply bE (ods:=[_,_,_,_,_,_,_,_,_,_,_,_,_,_,_,_,_,_,_,_]) 20 0 3 bD rfl rfl rfl
 refine ND ?_
 refine M3 ?_
 intros
 refine Mg c18 (cG rfl hh) fun _=>?_
 refine Mg c18 (cA 0 rfl hh (fa rfl) rfl) fun _=>?_
 refine dX (od:=odC [1] false (fSl aS a0.Chans) [cX]) (ps:=[1]) (φ:=fSl aS a0.Chans) rfl (fun _=>rfl) ⟨_,_,rfl,rfl,c18⟩ rfl rfl (bK rfl hh (sc rfl) rfl Ent.rfl) (fun _=>?_)
 refine Mg c18 (fS rfl hh (us rfl)) fun _=>?_
 refine Mg c18 (qX rfl hh hh) fun _=>?_
 refine My (cH rfl hh c18 hh) fun _=>?_
 refine M1 ?_
 intros
 refine Mt c19 fun _=>?_
 refine Mt c19 fun _=>?_
 refine Mt c19 fun _=>?_
 refine Mt c19 fun _=>?_
 refine Mt c19 fun _=>?_
 refine Mt c19 fun _=>?_
 refine Mt c19 fun _=>?_
 refine Mt c19 fun _=>?_
 refine Mt c19 fun _=>?_
 refine My (dD rfl hh c19 hh) fun _=>?_
 refine Z9 ?_
 revert H;refine bs fun r18 H e18=>?_
 have e18:=Option.some.inj e18;subst e18;have Hr5:=Option.some.inj Hr5;subst Hr5
 refine Z4 ?_
 revert H;refine bs fun r19 H e19=>?_
 have e19:=Option.some.inj e19;subst e19;have Hr4:=Option.some.inj Hr4;subst Hr4
 refine Z3 ?_
 revert H;refine bs fun r20 H e20=>?_
 have e20:=Option.some.inj e20;subst e20;have Hr3:=Option.some.inj Hr3;subst Hr3
 cases H
 refine aH [] (by decide) ?_
 exact dQ rfl (bA rfl) rfl
 exact fk
 kernel_rfl
 revert H;refine bs fun y10 h12 H=>?_
 apply bE (ods:=[_,_,_,_,_,_,_,_,_,_,_,_,_,_,_,_,_,_,_,_]) 20 0 3 bD rfl rfl rfl
 refine ND ?_
 refine M3 ?_
 intros
 refine Mg c18 (cG rfl hh) fun _=>?_
 refine Mg c18 (cA 0 rfl hh (fa rfl) rfl) fun _=>?_
 refine dX (od:=odC [1] false (fSl aS a0.Chans) [cX]) (ps:=[1]) (φ:=fSl aS a0.Chans) rfl (fun _=>rfl) ⟨_,_,rfl,rfl,c18⟩ rfl rfl (bK rfl hh (sc rfl) rfl Ent.rfl) (fun _=>?_)
 refine Mg c18 (fS rfl hh (us rfl)) fun _=>?_
 refine Mg c18 (qX rfl hh hh) fun _=>?_
 refine My (cH rfl hh c18 hh) fun _=>?_
 refine M1 ?_
 intros
 refine Mg c19 (cA 0 rfl hh (fa rfl) rfl) fun _=>?_
 refine dX (od:=odC [1] false (fSl aS a0.Chans) [cX]) (ps:=[1]) (φ:=fSl aS a0.Chans) rfl (fun _=>rfl) ⟨_,_,rfl,rfl,c19⟩ rfl rfl (bK rfl hh (sc rfl) rfl Ent.rfl) (fun _=>?_)
 refine Mg c19 (cG rfl hh) fun _=>?_
 refine Mg c19 (dF rfl hh hh (el rfl) h12) fun _=>?_
 refine Mg c19 (jF (t':=tI) (z:=y10.At) rfl hh (fa rfl) rfl) fun _=>?_
 refine Mg c19 (gW rfl hh (sc rfl) rfl) fun _=>?_
 refine Mg c19 (cA 0 rfl hh (fa rfl) rfl) fun _=>?_
 refine dX (od:=odC [0] false (fI y8.At) [cX]) (ps:=[0]) (φ:=fI y8.At) rfl (fun _=>rfl) ⟨_,_,rfl,rfl,c19⟩ rfl rfl (bK rfl hh (sc rfl) rfl Ent.rfl) (fun _=>?_)
 refine Mg c19 (tU rfl hh hh) fun _=>?_
 refine My (cH rfl hh c19 hh) fun _=>?_
 refine Z2 ?_
 revert H;refine is (fun c20 H=>?_) fun c20 H=>?_
 refine dO hh c20 ?_
 refine Z6 ?_
 revert H;refine bs fun r21 H e21=>?_
 have e21:=Option.some.inj e21;subst e21;have Hr5:=Option.some.inj Hr5;subst Hr5
 refine Z4 ?_
 revert H;refine bs fun r22 H e22=>?_
 have e22:=Option.some.inj e22;subst e22;have Hr4:=Option.some.inj Hr4;subst Hr4
 refine Z3 ?_
 revert H;refine bs fun r23 H e23=>?_
 have e23:=Option.some.inj e23;subst e23;have Hr3:=Option.some.inj Hr3;subst Hr3
 cases H
 refine aH [] (by decide) ?_
 exact dQ rfl (bA rfl) rfl
 refine dJ hh c20 ?_
 refine Z2 ?_
 revert H;refine bs fun o6 H Hr6=>?_
 refine aO (ι:=Unit) (fun i=>o6=Sum.inl ()) (fun i=>[(1,fEq (ptr b1)),(5,fEq v1),(6,fI x9),(7,fEq (ptr b3)),(8,fI x14),(9,fI y9)]) (fun i=>[aA b3 114 [fI y8.At,fSl tI y8.Joins,fI y8.Node],aA b1 63 [fSl aS a0.Chans,fSl aY a0.Spots,fSl aZ a0.Rules],aC v1 4 bF x13]) ?_ ?_
 refine Z4 ?_
 refine gN (ι:=Nat × Int) (fun i=>mT y8 x14 y9 i.1 i.2=_) (fun i=>i.1) (fun i=>[(1,fEq (ptr b1)),(5,fEq v1),(6,fI x9),(7,fEq (ptr b3)),(8,fI x14),(9,fI y9),(10,fI i.2)]) (fun i=>[aA b3 114 [fI y8.At,fSl tI y8.Joins,fI y8.Node],aA b1 63 [fSl aS a0.Chans,fSl aY a0.Spots,fSl aZ a0.Rules],aC v1 4 bF x13]) (fuel,0) H (Sc (Sc (Sc (Sc (Sc (Sc (Sc aX.nil))))))) rfl ?_
 clear H;rintro⟨k5,x17⟩ H
 replace H:mT y8 x14 y9 k5 x17=_:=H
 try dsimp only
 obtain _ | k5:=k5
 rw [mT]at H;cases H
 rw [mT]at H
 refine aI ?_
 refine Z5 ?_
 revert H;refine is (fun c21 H=>?_) fun c21 H=>?_
 refine dO hh c21 ?_
 refine Z2 ?_
 refine aI ?_
 refine Z5 ?_
 revert H;refine bs fun y11 h13 H=>?_
 refine Yy (dF rfl hh hh (el rfl) h13) ?_
 refine Z4 ?_
 revert H;refine is (fun c22 H=>?_) fun c22 H=>?_
 refine dO hh c22 ?_
 refine Z9 ?_
 revert H;refine bs fun r24 H e24=>?_
 have e24:=Option.some.inj e24;subst e24;have Hr6:=Option.some.inj Hr6;subst Hr6
 refine Z2 ?_
 revert H;refine bs fun r25 H e25=>?_
 have e25:=Option.some.inj e25;subst e25;have Hr5:=Option.some.inj Hr5;subst Hr5
 refine Z4 ?_
 revert H;refine bs fun r26 H e26=>?_
 have e26:=Option.some.inj e26;subst e26;have Hr4:=Option.some.inj Hr4;subst Hr4
 refine Z3 ?_
 revert H;refine bs fun r27 H e27=>?_
 have e27:=Option.some.inj e27;subst e27;have Hr3:=Option.some.inj Hr3;subst Hr3
 cases H
 refine aH [] (by decide) ?_
 exact dQ rfl (bA rfl) rfl
 refine dJ hh c22 ?_
 refine Z5 ?_
 revert H;refine bs fun z3 h14 H=>?_
 refine Yy (fN rfl hh hh h14) ?_
 refine Z2 ?_
 exact bR ((k5,z3)) ⟨H,Nat.lt_succ_self _⟩ (Sc (Sc (Sc (Sc (Sc (Sc (Sc aX.nil))))))) rfl
 refine dJ hh c21 ?_
 refine Z5 ?_
 exact bR (()) (Option.some.inj H).symm (Sc (Sc (Sc (Sc (Sc (Sc aX.nil)))))) rfl
 clear H;intro i hi;subst o6;have H:=Hr6;clear Hr6;try dsimp only at H
 try dsimp only
 refine Z3 ?_
 revert H;refine bs fun y12 h15 H=>?_
 refine Yo 2 rfl (jG rfl hh hh (el rfl) h15) ?_
 refine aM ?_
 refine oT (z':=true) trivial rfl rfl rfl (has rfl) (has rfl) (aD trivial) (sz rfl) (cB h15) rfl rfl ?_
 refine Z3 ?_
 refine aH [1,2,0] (by decide) ?_
 exact bR (x13.set y9.toNat true) (Option.some.inj H).symm (Sc (Sc (Sc (Sc (Sc aX.nil))))) rfl
 exact fk
 kernel_rfl
 clear H;intro x15 hi;subst o5;have H:=Hr5;clear Hr5;try dsimp only at H
 try dsimp only
 refine Z2 ?_
 revert H;refine bs fun z4 h16 H=>?_
 refine Yy (fN rfl hh hh h16) ?_
 refine Z2 ?_
 exact bR ((k4,x15,z4)) ⟨H,Nat.lt_succ_self _⟩ (Sc (Sc (Sc (Sc (Sc aX.nil))))) rfl
 refine dJ hh c17 ?_
 refine Z6 ?_
 refine aH [1,2] (by decide) ?_
 exact bR (x13) (Option.some.inj H).symm (Sc (Sc (Sc aX.nil))) rfl
 clear H;intro x10 hi;subst o4;have H:=Hr4;clear Hr4;try dsimp only at H
 try dsimp only
 refine Z2 ?_
 revert H;refine bs fun z5 h17 H=>?_
 refine Yy (fN rfl hh hh h17) ?_
 refine Z2 ?_
 exact bR ((k3,x10,z5)) ⟨H,Nat.lt_succ_self _⟩ (Sc (Sc (Sc aX.nil))) rfl
 refine dJ hh c12 ?_
 refine Z5 ?_
 exact bR (x8) (Option.some.inj H).symm (Sc aX.nil) rfl
 clear H;intro x5 hi;subst o3;have H:=Hr3;clear Hr3;try dsimp only at H
 try dsimp only
 revert H;refine bs fun o7 H Hr7=>?_
 refine aO (ι:=Unit) (fun i=>o7=Sum.inl ()) (fun i=>[]) (fun i=>[aA b1 63 [fSl aS a0.Chans,fSl aY a0.Spots,fSl aZ a0.Rules]]) ?_ ?_
 refine Z4 ?_
 refine gN (ι:=Nat × Int) (fun i=>oB x5 i.1 i.2=_) (fun i=>i.1) (fun i=>[(5,fEq v1),(11,fI i.2)]) (fun i=>[aA b1 63 [fSl aS a0.Chans,fSl aY a0.Spots,fSl aZ a0.Rules],aC v1 4 bF x5]) (fuel,0) H (Sc (Sc aX.nil)) rfl ?_
 clear H;rintro⟨k6,x19⟩ H
 replace H:oB x5 k6 x19=_:=H
 try dsimp only
 obtain _ | k6:=k6
 rw [oB]at H;cases H
 rw [oB]at H
 refine aI ?_
 refine Z6 ?_
 revert H;refine is (fun c23 H=>?_) fun c23 H=>?_
 refine dO hh c23 ?_
 refine Z2 ?_
 refine aI ?_
 refine Z4 ?_
 revert H;refine bs fun y13 h18 H=>?_
 refine Yo 1 rfl (jG rfl hh hh (el rfl) h18) ?_
 refine Yo 1 rfl (fZ rfl rfl hh (sc rfl) (cB h18) rfl) ?_
 refine Z2 ?_
 revert H;refine cs (fun c24 H=>?_) fun c24 H=>?_
 refine dJ hh (uC c24) ?_
 refine Z5 ?_
 revert H;refine bs fun z6 h19 H=>?_
 refine Yy (fN rfl hh hh h19) ?_
 refine Z2 ?_
 exact bR ((k6,z6)) ⟨H,Nat.lt_succ_self _⟩ (Sc (Sc aX.nil)) rfl
 refine dO hh (uY c24) ?_
 refine Z9 ?_
 revert H;refine bs fun r28 H e28=>?_
 have e28:=Option.some.inj e28;subst e28;have Hr7:=Option.some.inj Hr7;subst Hr7
 cases H
 refine aH [] (by decide) ?_
 exact dQ rfl (bA rfl) rfl
 refine dJ hh c23 ?_
 refine Z5 ?_
 refine aH [0] (by decide) ?_
 exact bR (()) (Option.some.inj H).symm aX.nil rfl
 clear H;intro i hi;subst o7;have H:=Hr7;clear Hr7;try dsimp only at H
 try dsimp only
 refine Z4 ?_
 cases H
 refine aH [] (by decide) ?_
 exact dQ rfl (bA rfl) rfl
open Go.SX Go.SW Go.Dt
def tY (a0:Int):Option (Int × Int × Bool):=
 (if a0=1 then
  some (decide (a0=1))
 else
  some (decide (a0=7))).bind fun x1=>
 bif x1 then
  some (0,0,true)
 else
  if a0=2 then
   some ((-1),0,true)
  else
   if a0=3 then
    some (0,2,true)
   else
    if a0=5 then
     some (1,2,true)
    else
     (if a0=4 then
      some (decide (a0=4))
     else
      if a0=6 then
       some (decide (a0=6))
      else
       some (decide (a0=8))).bind fun x2=>
     bif x2 then
      some (0,1,true)
     else
      some (0,0,false)
theorem aHD  (a0:Int) (r:Int × Int × Bool) (H:tY a0=some r):FnS Tryz.prog 134 [fI a0] [] (dG [fI r.1,fI r.2.1,aJ r.2.2]) (fun _=>[]):=by
 unfold tY at H
 refine bS Tryz.func134 rfl Tryz.ntmps134 rfl (fun β=>?_)
 refine Z5 ?_
 refine aI ?_
 revert H;refine B4 fun o1 H Hr1=>?_
 refine aO (ι:=Bool) (fun i=>o1=i) (fun i=>[(5,fI a0),(6,aJ i)]) (fun i=>[]) ?_ ?_
 revert H;refine I4 (fun c1 H=>?_) fun c1 H=>?_
 refine Z3 ?_
 exact Tm (decide (a0=1)) (ij H)
 refine Z5 ?_
 exact Tm (decide (a0=7)) (ij H)
 clear H;intro x1 hi;subst o1;have H:=Hr1;clear Hr1;try dsimp only at H
 try dsimp only
 revert H;refine cs (fun c2 H=>?_) fun c2 H=>?_
 refine Z9 ?_
 cases H
 exact uM rfl (bA rfl) (bA rfl) (bA rfl) rfl
 revert H;refine I5 (fun c3 H=>?_) fun c3 H=>?_
 refine Z9 ?_
 cases H
 exact uM rfl (bA rfl) (bA rfl) (bA rfl) rfl
 revert H;refine I5 (fun c4 H=>?_) fun c4 H=>?_
 refine Z9 ?_
 cases H
 exact uM rfl (bA rfl) (bA rfl) (bA rfl) rfl
 revert H;refine I5 (fun c5 H=>?_) fun c5 H=>?_
 refine Z9 ?_
 cases H
 exact uM rfl (bA rfl) (bA rfl) (bA rfl) rfl
 revert H;refine B1 fun o2 H Hr2=>?_
 refine aO (ι:=Bool) (fun i=>o2=i) (fun i=>[(15,aJ i)]) (fun i=>[]) ?_ ?_
 revert H;refine I4 (fun c6 H=>?_) fun c6 H=>?_
 refine Z3 ?_
 exact Tm (decide (a0=4)) (ij H)
 revert H;refine I5 (fun c7 H=>?_) fun c7 H=>?_
 refine Z3 ?_
 exact Tm (decide (a0=6)) (ij H)
 refine Z5 ?_
 exact Tm (decide (a0=8)) (ij H)
 clear H;intro x2 hi;subst o2;have H:=Hr2;clear Hr2;try dsimp only at H
 try dsimp only
 revert H;refine cs (fun c8 H=>?_) fun c8 H=>?_
 refine Z9 ?_
 cases H
 exact uM rfl (bA rfl) (bA rfl) (bA rfl) rfl
 refine Z10 ?_
 cases H
 exact uM rfl (bA rfl) (bA rfl) (bA rfl) rfl
def oL (rec_r03_expNodes:ScopeExp → Int → Option (Int)) (a0:ScopeExp) (a1:Int):Nat → Int → Int → Option (Int)
| 0,_,_=>none
| k+1,x4,x5=>
 if x5<(a0.Kids.length:Int)then
  if x4 ≤ a1 then
   (idx a0.Kids x5).bind fun y1=>
   (chk (a1 - x4)).bind fun z1=>
   (rec_r03_expNodes y1 z1).bind fun y2=>
   (chk (x4+y2)).bind fun z2=>
   (chk (x5+1)).bind fun z3=>
   oL rec_r03_expNodes a0 a1 k z2 z3
  else
   some x4
 else
  some x4
def lN:Nat → ScopeExp → Int → Option (Int)
| 0,_,_=>none
| fuel+1,a0,a1=>
 (oL (lN fuel) a0 a1 fuel 1 0).bind fun x1=>
 some x1
theorem aFR:∀ (fuel:Nat),(∀  (a0:ScopeExp) (a1:Int) (r:Int) (H:lN fuel a0 a1=some r),FnS Tryz.prog 153 [fSt cF a0,fI a1] [] (fI r) (fun _=>[])):=by
 intro fuel
 induction fuel with
 | zero=>exact fun a0 a1 r H=>(by rw [lN]at H;cases H)
 | succ fuel ih=>
 have ih_r03_expNodes:=@ih
 refine ?_
 intro a0 a1 r H
 rw [lN]at H
 refine bS Tryz.func153 rfl Tryz.ntmps153 rfl (fun β=>?_)
 refine Z1 ?_
 refine Tn (cO rfl hh bW) fun b1=>?_
 revert H;refine B5 fun o1 H Hr1=>?_
 refine aO (ι:=Int) (fun i=>o1=i) (fun i=>[(5,fI i)]) (fun i=>[aA b1 143 [fI a0.Op,fI a0.N,fW a0.Kids]]) ?_ ?_
 refine Z4 ?_
 refine Tl (ι:=Nat × Int × Int) (fun i=>oL (lN fuel) a0 a1 i.1 i.2.1 i.2.2=_) (fun i=>i.1) (fun i=>[(1,fI a1),(2,fEq (ptr b1)),(5,fI i.2.1),(6,fI i.2.2)]) (fun i=>[aA b1 143 [fI a0.Op,fI a0.N,fW a0.Kids]]) (fuel,1,0) H ?_
 clear H;rintro⟨k1,x4,x5⟩ H
 replace H:oL (lN fuel) a0 a1 k1 x4 x5=_:=H
 try dsimp only
 obtain _ | k1:=k1
 rw [oL]at H;cases H
 rw [oL]at H
 refine aI ?_
 refine Z3 ?_
 refine Yo 0 rfl (bK rfl hh (sc rfl) rfl (gL gF)) ?_
 revert H;refine I3 (fun c1 H=>?_) fun c1 H=>?_
 revert H;refine I5 (fun c2 H=>?_) fun c2 H=>?_
 refine Z3 ?_
 refine aI ?_
 refine Z4 ?_
 refine Yo 0 rfl (bK rfl hh (sc rfl) rfl (gL gF)) ?_
 revert H;refine B1 fun y1 h1 H=>?_
 revert H;refine B4 fun z1 h2 H=>?_
 revert H;refine B1 fun y2 h3 H=>?_
 refine Tc (ih_r03_expNodes _ _ _ h3) ?_
 revert H;refine bs fun z2 h4 H=>?_
 revert H;refine B7 fun z3 h5 H=>?_
 refine Z3 ?_
 exact Tm ((k1,z2,z3)) ⟨H,ls⟩
 refine Z6 ?_
 exact Tm (x4) (ij H)
 refine Z11 ?_
 exact Tm (x4) (ij H)
 clear H;intro x1 hi;subst o1;have H:=Hr1;clear Hr1;try dsimp only at H
 try dsimp only
 refine Z5 ?_
 cases H
 refine aH [] (by decide) ?_
 exact To
def mS (rec_r03_expDepth:ScopeExp → Option (Int)) (a0:ScopeExp):Nat → Int → Int → Option (Int)
| 0,_,_=>none
| k+1,x4,x5=>
 if x5<(a0.Kids.length:Int)then
  (idx a0.Kids x5).bind fun y1=>
  (rec_r03_expDepth y1).bind fun y2=>
  (chk (x5+1)).bind fun z1=>
  mS rec_r03_expDepth a0 k (max x4 y2) z1
 else
  some x4
def lO:Nat → ScopeExp → Option (Int)
| 0,_=>none
| fuel+1,a0=>
 (mS (lO fuel) a0 fuel 0 0).bind fun x1=>
 (chk (x1+1)).bind fun z2=>
 some z2
theorem aII:∀ (fuel:Nat),(∀  (a0:ScopeExp) (r:Int) (H:lO fuel a0=some r),FnS Tryz.prog 154 [fSt cF a0] [] (fI r) (fun _=>[])):=by
 intro fuel
 induction fuel with
 | zero=>exact fun a0 r H=>(by rw [lO]at H;cases H)
 | succ fuel ih=>
 have ih_r03_expDepth:=@ih
 refine ?_
 intro a0 r H
 rw [lO]at H
 refine bS Tryz.func154 rfl Tryz.ntmps154 rfl (fun β=>?_)
 refine Z1 ?_
 refine Tn (cO rfl hh bW) fun b1=>?_
 revert H;refine B5 fun o1 H Hr1=>?_
 refine aO (ι:=Int) (fun i=>o1=i) (fun i=>[(3,fI i)]) (fun i=>[aA b1 143 [fI a0.Op,fI a0.N,fW a0.Kids]]) ?_ ?_
 refine Z4 ?_
 refine Tl (ι:=Nat × Int × Int) (fun i=>mS (lO fuel) a0 i.1 i.2.1 i.2.2=_) (fun i=>i.1) (fun i=>[(1,fEq (ptr b1)),(3,fI i.2.1),(4,fI i.2.2)]) (fun i=>[aA b1 143 [fI a0.Op,fI a0.N,fW a0.Kids]]) (fuel,0,0) H ?_
 clear H;rintro⟨k1,x4,x5⟩ H
 replace H:mS (lO fuel) a0 k1 x4 x5=_:=H
 try dsimp only
 obtain _ | k1:=k1
 rw [mS]at H;cases H
 rw [mS]at H
 refine aI ?_
 refine Z3 ?_
 refine Yo 0 rfl (bK rfl hh (sc rfl) rfl (gL gF)) ?_
 revert H;refine I3 (fun c1 H=>?_) fun c1 H=>?_
 refine Z3 ?_
 refine aI ?_
 refine Z4 ?_
 refine Yo 0 rfl (bK rfl hh (sc rfl) rfl (gL gF)) ?_
 revert H;refine B1 fun y1 h1 H=>?_
 revert H;refine B2 fun y2 h2 H=>?_
 refine Tc (ih_r03_expDepth _ _ h2) ?_
 refine Yy (o_max rfl hh hh) ?_
 revert H;refine B6 fun z1 h3 H=>?_
 refine Z3 ?_
 exact Tm ((k1,max x4 y2,z1)) ⟨H,ls⟩
 refine Z6 ?_
 exact Tm (x4) (ij H)
 clear H;intro x1 hi;subst o1;have H:=Hr1;clear Hr1;try dsimp only at H
 try dsimp only
 revert H;refine B2 fun z2 h4 H=>?_
 refine Z4 ?_
 cases H
 refine aH [] (by decide) ?_
 exact To
def qQ:Nat → ScopeExp → Int → Option (Bool)
| 0,_,_=>none
| fuel+1,a0,a1=>
 if a0.Op=1 then
  (if (a0.Kids.length:Int)=0 then
   if (-1000000000) ≤ a0.N then
    some (decide (a0.N ≤ 1000000000))
   else
    some false
  else
   some false).bind fun x1=>
  some x1
 else
  if a0.Op=2 then
   (if (a0.Kids.length:Int)=0 then
    if 0 ≤ a0.N then
     some (decide (a0.N<a1))
    else
     some false
   else
    some false).bind fun x2=>
   some x2
  else
   if a0.Op<3 then
    some false
   else
    if 7<a0.Op then
     some false
    else
     if (a0.Kids.length:Int)≠2 then
      some false
     else
      if a0.N≠0 then
       some false
      else
       ((idx a0.Kids 0).bind fun y1=>
       ((qQ fuel) y1 a1).bind fun y2=>
       bif y2 then
        (idx a0.Kids 1).bind fun y3=>
        ((qQ fuel) y3 a1).bind fun y4=>
        some y4
       else
        some false).bind fun x3=>
       some x3
theorem aH2:∀ (fuel:Nat),(∀  (a0:ScopeExp) (a1:Int) (r:Bool) (H:qQ fuel a0 a1=some r),FnS Tryz.prog 155 [fSt cF a0,fI a1] [] (aJ r) (fun _=>[])):=by
 intro fuel
 induction fuel with
 | zero=>exact fun a0 a1 r H=>(by rw [qQ]at H;cases H)
 | succ fuel ih=>
 have ih_r03_expFormed:=@ih
 refine ?_
 intro a0 a1 r H
 rw [qQ]at H
 refine bS Tryz.func155 rfl Tryz.ntmps155 rfl (fun β=>?_)
 refine Z1 ?_
 refine Tn (cO rfl hh bW) fun b1=>?_
 refine Z2 ?_
 refine aI ?_
 revert H;refine I7 (fun c1 H=>?_) fun c1 H=>?_
 revert H;refine B1 fun o1 H Hr1=>?_
 refine aO (ι:=Bool) (fun i=>o1=i) (fun i=>[(4,aJ i)]) (fun i=>[aA b1 143 [fI a0.Op,fI a0.N,fW a0.Kids]]) ?_ ?_
 refine Z2 ?_
 refine Yo 0 rfl (bK rfl hh (sc rfl) rfl (gL gF)) ?_
 revert H;refine I3 (fun c2 H=>?_) fun c2 H=>?_
 revert H;refine I5 (fun c3 H=>?_) fun c3 H=>?_
 refine Z6 ?_
 exact Tm (decide (a0.N ≤ 1000000000)) (ij H)
 refine Z6 ?_
 exact Tm (false) (ij H)
 refine Z11 ?_
 exact Tm (false) (ij H)
 clear H;intro x1 hi;subst o1;have H:=Hr1;clear Hr1;try dsimp only at H
 try dsimp only
 refine Z3 ?_
 cases H
 refine aH [] (by decide) ?_
 exact To
 revert H;refine I7 (fun c4 H=>?_) fun c4 H=>?_
 revert H;refine B1 fun o2 H Hr2=>?_
 refine aO (ι:=Bool) (fun i=>o2=i) (fun i=>[(4,aJ i)]) (fun i=>[aA b1 143 [fI a0.Op,fI a0.N,fW a0.Kids]]) ?_ ?_
 refine Z2 ?_
 refine Yo 0 rfl (bK rfl hh (sc rfl) rfl (gL gF)) ?_
 revert H;refine I3 (fun c5 H=>?_) fun c5 H=>?_
 revert H;refine I5 (fun c6 H=>?_) fun c6 H=>?_
 refine Z7 ?_
 exact Tm (decide (a0.N<a1)) (ij H)
 refine Z7 ?_
 exact Tm (false) (ij H)
 refine Z12 ?_
 exact Tm (false) (ij H)
 clear H;intro x2 hi;subst o2;have H:=Hr2;clear Hr2;try dsimp only at H
 try dsimp only
 refine Z3 ?_
 cases H
 refine aH [] (by decide) ?_
 exact To
 revert H;refine I6 (fun c7 H=>?_) fun c7 H=>?_
 refine Z12 ?_
 refine Z12 ?_
 cases H
 refine aH [] (by decide) ?_
 exact To
 revert H;refine I5 (fun c8 H=>?_) fun c8 H=>?_
 refine Z12 ?_
 refine Z7 ?_
 cases H
 refine aH [] (by decide) ?_
 exact To
 refine Z1 ?_
 refine Yh 0 rfl c8 (bK rfl hh (sc rfl) rfl (gL gF)) ?_
 revert H;refine I4 (fun c9 H=>?_) fun c9 H=>?_
 refine Z12 ?_
 refine Z1 ?_
 cases H
 refine aH [] (by decide) ?_
 exact To
 revert H;refine I6 (fun c10 H=>?_) fun c10 H=>?_
 refine Z7 ?_
 cases H
 refine aH [] (by decide) ?_
 exact To
 revert H;refine B4 fun o3 H Hr3=>?_
 refine aO (ι:=Bool) (fun i=>o3=i) (fun i=>[(4,aJ i)]) (fun i=>[aA b1 143 [fI a0.Op,fI a0.N,fW a0.Kids]]) ?_ ?_
 refine Z2 ?_
 refine Yo 0 rfl (bK rfl hh (sc rfl) rfl (gL gF)) ?_
 revert H;refine bs fun y1 h1 H=>?_
 revert H;refine B3 fun y2 h2 H=>?_
 refine Tc (ih_r03_expFormed _ _ _ h2) ?_
 refine Z1 ?_
 revert H;refine cs (fun c11 H=>?_) fun c11 H=>?_
 refine Z1 ?_
 refine Yh 0 rfl c11 (bK rfl hh (sc rfl) rfl (gL gF)) ?_
 revert H;refine bs fun y3 h3 H=>?_
 revert H;refine B3 fun y4 h4 H=>?_
 refine Tc (ih_r03_expFormed _ _ _ h4) ?_
 refine Z3 ?_
 exact Tm (y4) (ij H)
 refine Z9 ?_
 exact Tm (false) (ij H)
 clear H;intro x3 hi;subst o3;have H:=Hr3;clear Hr3;try dsimp only at H
 try dsimp only
 refine Z1 ?_
 cases H
 refine aH [] (by decide) ?_
 exact To
def wO (fuel:Nat) (a0:ScopeExp) (a1:Int):Option (Bool):=
 ((lN fuel (⟨a0.Op,a0.N,a0.Kids⟩:ScopeExp) 60).bind fun y1=>
 if y1 ≤ 60 then
  (lO fuel (⟨a0.Op,a0.N,a0.Kids⟩:ScopeExp)).bind fun y2=>
  if y2 ≤ 12 then
   (qQ fuel (⟨a0.Op,a0.N,a0.Kids⟩:ScopeExp) a1).bind fun y3=>
   some y3
  else
   some false
 else
  some false).bind fun x1=>
 some x1
theorem aGA (fuel:Nat)  (a0:ScopeExp) (a1:Int) (r:Bool) (H:wO fuel a0 a1=some r):FnS Tryz.prog 135 [fSt cF a0,fI a1] [] (aJ r) (fun _=>[]):=by
 unfold wO at H
 refine bS Tryz.func135 rfl Tryz.ntmps135 rfl (fun β=>?_)
 refine Z1 ?_
 refine Tn (cO rfl hh bW) fun b1=>?_
 revert H;refine B2 fun o1 H Hr1=>?_
 refine aO (ι:=Bool) (fun i=>o1=i) (fun i=>[(4,aJ i)]) (fun i=>[aA b1 143 [fI a0.Op,fI a0.N,fW a0.Kids]]) ?_ ?_
 revert H;refine B2 fun y1 h1 H=>?_
 refine Tc (aFR _ _ _ _ h1) ?_
 revert H;refine I2 (fun c1 H=>?_) fun c1 H=>?_
 revert H;refine B1 fun y2 h2 H=>?_
 refine Tc (aII _ _ _ h2) ?_
 revert H;refine I3 (fun c2 H=>?_) fun c2 H=>?_
 revert H;refine B2 fun y3 h3 H=>?_
 refine Tc (aH2 _ _ _ _ h3) ?_
 refine Z3 ?_
 exact Tm (y3) (ij H)
 refine Z6 ?_
 exact Tm (false) (ij H)
 refine Z11 ?_
 exact Tm (false) (ij H)
 clear H;intro x1 hi;subst o1;have H:=Hr1;clear Hr1;try dsimp only at H
 try dsimp only
 refine Z1 ?_
 cases H
 refine aH [] (by decide) ?_
 exact To
def uD (a0:ScopeDef):Option (Int):=
 (chk ((a0.Chans.length:Int)+(a0.Spots.length:Int))).bind fun z1=>
 some z1
theorem aF4  (a0:ScopeDef) (r:Int) (H:uD a0=some r):FnS Tryz.prog 136 [fSt aB a0] [] (fI r) (fun _=>[]):=by
 unfold uD at H
 refine bS Tryz.func136 rfl Tryz.ntmps136 rfl (fun β=>?_)
 refine Z1 ?_
 refine Tn (cO rfl hh bW) fun b1=>?_
 revert H;refine B9 fun z1 h1 H=>?_
 refine Z4 ?_
 cases H
 refine aH [] (by decide) ?_
 exact To
def oQ (a0:ScopeDef) (a1:ScopeRule):Nat → Int → Int → Option (Int)
| 0,_,_=>none
| k+1,x4,x5=>
 if x5<(a1.Joins.length:Int)then
  (idx a1.Joins x5).bind fun y1=>
  (idx a0.Chans y1).bind fun y2=>
  (chk (x4+y2.Many)).bind fun z1=>
  (chk (x5+1)).bind fun z2=>
  oQ a0 a1 k z1 z2
 else
  some x4
def wG (fuel:Nat) (a0:ScopeDef) (a1:ScopeRule):Option (Int):=
 (oQ a0 a1 fuel 0 0).bind fun x1=>
 some x1
theorem aGU (fuel:Nat)  (a0:ScopeDef) (a1:ScopeRule) (r:Int) (H:wG fuel a0 a1=some r):FnS Tryz.prog 156 [fSt aB a0,fSt aZ a1] [] (fI r) (fun _=>[]):=by
 unfold wG at H
 refine bS Tryz.func156 rfl Tryz.ntmps156 rfl (fun β=>?_)
 refine Z1 ?_
 refine Tn (cO rfl hh bW) fun b1=>?_
 refine Tn (cO rfl hh bW) fun b2=>?_
 revert H;refine B5 fun o1 H Hr1=>?_
 refine aO (ι:=Int) (fun i=>o1=i) (fun i=>[(5,fI i)]) (fun i=>[aA b2 114 [fI a1.At,fSl tI a1.Joins,fI a1.Node],aA b1 63 [fSl aS a0.Chans,fSl aY a0.Spots,fSl aZ a0.Rules]]) ?_ ?_
 refine Z4 ?_
 refine Tl (ι:=Nat × Int × Int) (fun i=>oQ a0 a1 i.1 i.2.1 i.2.2=_) (fun i=>i.1) (fun i=>[(2,fEq (ptr b1)),(3,fEq (ptr b2)),(5,fI i.2.1),(6,fI i.2.2)]) (fun i=>[aA b2 114 [fI a1.At,fSl tI a1.Joins,fI a1.Node],aA b1 63 [fSl aS a0.Chans,fSl aY a0.Spots,fSl aZ a0.Rules]]) (fuel,0,0) H ?_
 clear H;rintro⟨k1,x4,x5⟩ H
 replace H:oQ a0 a1 k1 x4 x5=_:=H
 try dsimp only
 obtain _ | k1:=k1
 rw [oQ]at H;cases H
 rw [oQ]at H
 refine aI ?_
 revert H;refine I7 (fun c1 H=>?_) fun c1 H=>?_
 refine Z3 ?_
 refine aI ?_
 revert H;refine B1 fun y1 h1 H=>?_
 revert H;refine bs fun y2 h2 H=>?_
 revert H;refine bs fun z1 h3 H=>?_
 apply bE (ods:=[_,_,_,_,_,_,_,_,_,_,_,_,_]) 13 0 2 bD rfl rfl rfl
 refine ND ?_
 refine M8 ?_
 intros
 refine M5 ?_
 intros
 revert H;refine B6 fun z2 h4 H=>?_
 refine Z3 ?_
 exact Tm ((k1,z1,z2)) ⟨H,ls⟩
 exact fk
 kernel_rfl
 refine Z6 ?_
 exact Tm (x4) (ij H)
 clear H;intro x1 hi;subst o1;have H:=Hr1;clear Hr1;try dsimp only at H
 try dsimp only
 refine Z5 ?_
 cases H
 refine aH [] (by decide) ?_
 exact To
end Go.Proofs.YtjahnkcjbglnoaaGreatDoor

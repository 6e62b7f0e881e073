/- Parts of the proof: lemmas, and the steps through the program. -/
import Derived.Test.YtgidgoahhepmlaaGreatFo1
set_option linter.unusedVariables false
set_option linter.unusedSimpArgs false
set_option maxRecDepth 100000
set_option maxHeartbeats 2000000
namespace Go.Proofs.YtgidgoahhepmlaaGreat
open Go.SX Go.SW Go.Dt
attribute [local irreducible] Code.wpIn wpListIn Exit.then Exit.inBlock
def sS (a0:List Bool) (a1:Bool):Nat->Int->Option ((Unit) ⊕ (Int))
| 0,_=>none
| k+1,x2=>
 if x2<(a0.length:Int)then
  (idx a0 x2).bind fun y1=>
  bif a1==y1 then
   (some x2).bind fun r=>some (Sum.inr r)
  else
   (chk (x2+1)).bind fun z1=>
   sS a0 a1 k z1
 else
  some (Sum.inl ())
def aBQ (AA:Nat) (a0:List Bool) (a1:Bool):Option (Int):=
 (sS a0 a1 AA 0).bind fun o=>match o with
 | Sum.inr r=>some r
 | Sum.inl _=>
 some (-1)
theorem aLp (AA:Nat)  (a0:List Bool) (a1:Bool) (r:Int) (H:aBQ AA a0 a1=some r):FnS Tryz.prog 179 [fSl aR a0,aH a1] [] (fI r) (fun _=>[]):=by
 unfold aBQ at H
 refine bB Tryz.func179 rfl Tryz.ntmps179 rfl (fun β=>?_)
 revert H;refine B3z fun o1 H Hr1=>?_
 refine aO (ι:=Unit) (fun i=>o1=Sum.inl ()) (fun i=>[]) (fun i=>[]) ?_ ?_
 refine Z6 ?_
 refine Th (ι:=Int) (fun i=>sS a0 a1 i.1 i.2=_) (fun i=>[(0,fSl aR a0),(1,aH a1),(7,fI (a0.length:Int)),(8,fI i.2)]) (fun i=>[]) (AA,0) H (fun _ h=>nomatch h) ?_
 clear H;rintro k1 x2 H;dsimp only at H ⊢;rw [sS]at H
 refine Z3 ?_
 refine aG ?_
 revert H;refine is (fun c1 H=>?_) fun c1 H=>?_
 refine Z3 ?_
 refine aG ?_
 revert H;refine B9z fun y1 h1 H=>?_
 refine Z2 ?_
 refine Yy (o_eqlB rfl hh hh aKg) ?_
 refine Z1 ?_
 revert H;refine cs (fun c2 H=>?_) fun c2 H=>?_
 revert H;refine B11z fun r1 H e1=>?_
 cases e1;cases Hr1
 cases H
 exact To
 revert H;refine B5z fun z1 h2 H=>?_
 refine Z3 ?_
 exact Tm ((k1,z1)) ⟨H,ls⟩
 refine Z6 ?_
 exact Tm (()) (ij H)
 rintro i hi;subst o1;replace H:=Hr1;clear Hr1;try dsimp only at H ⊢
 refine Z4 ?_
 cases H
 exact To
def vZ (AA:Nat) (a0:List Bool) (a1:Bool):Option (Bool):=
 (aBQ AA a0 a1).bind fun y1=>
 some (decide (0<=y1))
theorem aFP (AA:Nat)  (a0:List Bool) (a1:Bool) (r:Bool) (H:vZ AA a0 a1=some r):FnS Tryz.prog 165 [fSl aR a0,aH a1] [] (aH r) (fun _=>[]):=by
 unfold vZ at H
 refine bB Tryz.func165 rfl Tryz.ntmps165 rfl (fun β=>?_)
 refine B6 H fun y1 h1 H=>?_
 refine Tc (aLp _ _ _ _ h1) ?_
 refine Z4 ?_
 cases H
 exact To
def oU (AA:Nat) (a0:AJ):Nat->Int->Option ((Unit) ⊕ (Af ⊕ Value))
| 0,_=>none
| k+1,x2=>
 if x2<(a0.AF.length:Int)then
  ((idx a0.AF x2).bind fun y4=>
  (rE AA y4).bind fun y5=>
  bif y5 then
   if x2=0 then
    (bZ true).bind fun y6=>
    match y6 with
    | Sum.inr pv4=>((some (Sum.inr pv4)).bind fun r=>some (Sum.inr r)).bind fun r=>some (Sum.inr r)
    | Sum.inl y6=>
    some (Sum.inl ())
   else
    (chk (x2 - 1)).bind fun z1=>
    (idx a0.AF z1).bind fun y7=>
    (bZ (slt y7 y4)).bind fun y8=>
    match y8 with
    | Sum.inr pv5=>((some (Sum.inr pv5)).bind fun r=>some (Sum.inr r)).bind fun r=>some (Sum.inr r)
    | Sum.inl y8=>
    some (Sum.inl ())
  else
   (bZ false).bind fun y9=>
   match y9 with
   | Sum.inr pv6=>((some (Sum.inr pv6)).bind fun r=>some (Sum.inr r)).bind fun r=>some (Sum.inr r)
   | Sum.inl y9=>
   some (Sum.inl ())).bind fun o=>match o with
  | Sum.inr r=>some r
  | Sum.inl _=>
  (chk (x2+1)).bind fun z2=>
  oU AA a0 k z2
 else
  some (Sum.inl ())
def tN (AA:Nat) (a0:AJ):Option (Af ⊕ Value):=
 (if (a0.AF.length:Int)<=12 then
  if (a0.AB.length:Int)<=60 then
   (bZ (decide ((a0.AD.length:Int)<=12))).bind fun y1=>
   match y1 with
   | Sum.inr pv1=>(some (Sum.inr pv1)).bind fun r=>some (Sum.inr r)
   | Sum.inl y1=>
   some (Sum.inl ())
  else
   (bZ false).bind fun y2=>
   match y2 with
   | Sum.inr pv2=>(some (Sum.inr pv2)).bind fun r=>some (Sum.inr r)
   | Sum.inl y2=>
   some (Sum.inl ())
 else
  (bZ false).bind fun y3=>
  match y3 with
  | Sum.inr pv3=>(some (Sum.inr pv3)).bind fun r=>some (Sum.inr r)
  | Sum.inl y3=>
  some (Sum.inl ())).bind fun o=>match o with
 | Sum.inr r=>some r
 | Sum.inl _=>
 (oU AA a0 AA 0).bind fun o=>match o with
 | Sum.inr r=>some r
 | Sum.inl _=>
 (mk 0 (a0.AB.length:Int)).bind fun y10=>
 (mk false (a0.AB.length:Int)).bind fun y11=>
 (mk false (a0.AD.length:Int)).bind fun y12=>
 (fP AA (⟨(⟨a0.AF,a0.AB,a0.AD,a0.AG⟩:AJ),y10,y11,y12⟩:Af) a0.AG (a0.AF.length:Int)).bind fun y13=>
 match y13 with
 | Sum.inr pv7=>some (Sum.inr pv7)
 | Sum.inl y13=>
 ((vZ AA y13.AR false).bind fun y14=>
 bif !y14 then
  (vZ AA y13.Ae false).bind fun y15=>
  (bZ (!y15)).bind fun y16=>
  match y16 with
  | Sum.inr pv8=>(some (Sum.inr pv8)).bind fun r=>some (Sum.inr r)
  | Sum.inl y16=>
  some (Sum.inl y13.Ae)
 else
  (bZ false).bind fun y17=>
  match y17 with
  | Sum.inr pv9=>(some (Sum.inr pv9)).bind fun r=>some (Sum.inr r)
  | Sum.inl y17=>
  some (Sum.inl y13.Ae)).bind fun o=>match o with
 | Sum.inr r=>some r
 | Sum.inl x3=>
 some (Sum.inl (⟨(⟨y13.p.AF,y13.p.AB,y13.p.AD,y13.p.AG⟩:AJ),y13.Aa,y13.AR,x3⟩:Af))
theorem wN (AA:Nat)  (a0:AJ) (r:Af ⊕ Value) (H:tN AA a0=some r):FnE Tryz.prog 137 [fSt dQ a0] [] r (fun r=>aL cH r) (fun r=>[]):=by
 unfold tN at H
 refine rF Tryz.func137 rfl Tryz.ntmps137 rfl (fun β=>?_)
 refine Z1 ?_
 refine Tn (bU rfl hh bM) fun b1=>?_
 revert H;refine B2z fun o1 H Hr1=>?_
 refine aO (ι:=Unit) (fun i=>o1=Sum.inl ()) (fun i=>[(1,fEq (ptr b1))]) (fun i=>[aA b1 26 [fSl aD a0.AF,fSl aJ a0.AB,fSl aB a0.AD,fI a0.AG]]) ?_ ?_
 revert H;refine I6z (fun c1 H=>?_) fun c1 H=>?_
 revert H;refine I6z (fun c2 H=>?_) fun c2 H=>?_
 revert H;refine B5z fun y1 h1 H=>?_
 rcases y1 with y1 | pv1 <;> dsimp only at H
 refine Tc (bA _ _ h1).s ?_
 refine Z1 ?_
 exact Tm (()) (ij H)
 refine Tp (bA _ _ h1).pan ?_
 revert H;refine B1z fun r1 H e1=>?_
 cases e1;cases Hr1
 cases H
 exact cF
 revert H;refine B5z fun y2 h2 H=>?_
 rcases y2 with y2 | pv2 <;> dsimp only at H
 refine Tc (bA _ _ h2).s ?_
 refine Z1 ?_
 exact Tm (()) (ij H)
 refine Tp (bA _ _ h2).pan ?_
 revert H;refine B1z fun r2 H e2=>?_
 cases e2;cases Hr1
 cases H
 exact cF
 revert H;refine B11z fun y3 h3 H=>?_
 rcases y3 with y3 | pv3 <;> dsimp only at H
 refine Tc (bA _ _ h3).s ?_
 refine Z1 ?_
 exact Tm (()) (ij H)
 refine Tp (bA _ _ h3).pan ?_
 revert H;refine B1z fun r3 H e3=>?_
 cases e3;cases Hr1
 cases H
 exact cF
 rintro i hi;subst o1;replace H:=Hr1;clear Hr1;try dsimp only at H ⊢
 revert H;refine bs fun o2 H Hr2=>?_
 refine aO (ι:=Unit) (fun i=>o2=Sum.inl ()) (fun i=>[(1,fEq (ptr b1))]) (fun i=>[aA b1 26 [fSl aD a0.AF,fSl aJ a0.AB,fSl aB a0.AD,fI a0.AG]]) ?_ ?_
 refine Z7 ?_
 refine Th (ι:=Int) (fun i=>oU AA a0 i.1 i.2=_) (fun i=>[(1,fEq (ptr b1)),(24,fSl aD a0.AF),(25,fI (a0.AF.length:Int)),(26,fI i.2)]) (fun i=>[aA b1 26 [fSl aD a0.AF,fSl aJ a0.AB,fSl aB a0.AD,fI a0.AG]]) (AA,0) H (fun _ h=>nomatch h) ?_
 clear H;rintro k1 x2 H;dsimp only at H ⊢;rw [oU]at H
 refine Z3 ?_
 refine aG ?_
 revert H;refine is (fun c3 H=>?_) fun c3 H=>?_
 revert H;refine B3z fun o3 H Hr3=>?_
 refine aO (ι:=Unit) (fun i=>o3=Sum.inl ()) (fun i=>[(1,fEq (ptr b1)),(24,fSl aD a0.AF),(25,fI (a0.AF.length:Int)),(26,fI x2)]) (fun i=>[aA b1 26 [fSl aD a0.AF,fSl aJ a0.AB,fSl aB a0.AD,fI a0.AG]]) ?_ ?_
 revert H;refine B3z fun y4 h4 H=>?_
 revert H;refine B7z fun y5 h5 H=>?_
 refine Tc (aLG _ _ _ h5) ?_
 refine Z1 ?_
 revert H;refine cs (fun c4 H=>?_) fun c4 H=>?_
 revert H;refine I3z (fun c5 H=>?_) fun c5 H=>?_
 revert H;refine dS fun y6 h6 H=>?_
 rcases y6 with y6 | pv4 <;> dsimp only at H
 refine Tc (bA _ _ h6).s ?_
 refine Z3 ?_
 exact Tm (()) (ij H)
 refine Tp (bA _ _ h6).pan ?_
 revert H;refine B2z fun r4 H e4=>?_
 cases e4;cases Hr3
 revert H;refine B3z fun r5 H e5=>?_
 cases e5;cases Hr2
 cases H
 exact cF
 revert H;refine B3z fun z1 h7 H=>?_
 revert H;refine B1z fun y7 h8 H=>?_
 refine Z3 ?_
 refine Yg c5 (o_lssS rfl hh hh) ?_
 revert H;refine B2z fun y8 h9 H=>?_
 rcases y8 with y8 | pv5 <;> dsimp only at H
 refine Tc (bA _ _ h9).s ?_
 refine Z3 ?_
 exact Tm (()) (ij H)
 refine Tp (bA _ _ h9).pan ?_
 revert H;refine B2z fun r6 H e6=>?_
 cases e6;cases Hr3
 revert H;refine B3z fun r7 H e7=>?_
 cases e7;cases Hr2
 cases H
 exact cF
 refine Z3 ?_
 refine cR (⟨_,_,_,_,rfl,rfl,rfl,nu⟩) rfl rfl ?_
 refine cR (⟨_,_,_,_,rfl,rfl,rfl,nu⟩) rfl rfl ?_
 refine cR (⟨_,_,_,_,rfl,rfl,rfl,nu⟩) rfl rfl ?_
 refine cR (⟨_,_,_,_,rfl,rfl,rfl,nu⟩) rfl rfl ?_
 refine cR (⟨_,_,_,_,rfl,rfl,rfl,nu⟩) rfl rfl ?_
 refine cR (⟨_,_,_,_,rfl,rfl,rfl,nu⟩) rfl rfl ?_
 refine cR (⟨_,_,_,_,rfl,rfl,rfl,nu⟩) rfl rfl ?_
 refine cR (⟨_,_,_,_,rfl,rfl,rfl,nu⟩) rfl rfl ?_
 revert H;refine B2z fun y9 h10 H=>?_
 rcases y9 with y9 | pv6 <;> dsimp only at H
 refine Tc (bA _ _ h10).s ?_
 refine Z3 ?_
 exact Tm (()) (ij H)
 refine Tp (bA _ _ h10).pan ?_
 revert H;refine B2z fun r8 H e8=>?_
 cases e8;cases Hr3
 revert H;refine B3z fun r9 H e9=>?_
 cases e9;cases Hr2
 cases H
 exact cF
 rintro i hi;subst o3;replace H:=Hr3;clear Hr3;try dsimp only at H ⊢
 revert H;refine B1z fun z2 h11 H=>?_
 refine Z3 ?_
 exact Tm ((k1,z2)) ⟨H,ls⟩
 refine Z6 ?_
 exact Tm (()) (ij H)
 rintro i hi;subst o2;replace H:=Hr2;clear Hr2;try dsimp only at H ⊢
 refine aG ?_
 refine bz H fun y10 h12 H=>?_
 refine bz H fun y11 h13 H=>?_
 refine bz H fun y12 h14 H=>?_
 apply bD (ods:=[_,_,_,_,_,_,_,_,_,_,_,_,_,_,_,_]) 16 4 5 bC rfl rfl rfl
 refine ND ?_
 refine M4 ?_
 intros
 refine Mn 1 (fun b2=> .slice (some ⟨b2,0,none⟩) y10.length y10.length) (fun b2=>aC (.slice (some ⟨b2,0,none⟩) y10.length y10.length) 3 tI y10) rfl (kH (t:=tI) (z:=0) rfl (has rfl) (et rfl) rfl pE rfl h12) (fun b2 u1=>?_)
 refine M3 ?_
 intros
 refine Mn 2 (fun b3=> .slice (some ⟨b3,0,none⟩) y11.length y11.length) (fun b3=>aC (.slice (some ⟨b3,0,none⟩) y11.length y11.length) 4 aR y11) rfl (kH (t:=aR) (z:=false) rfl (has rfl) (et rfl) rfl wF rfl h13) (fun b3 u2=>?_)
 refine M3 ?_
 intros
 refine Mn 3 (fun b4=> .slice (some ⟨b4,0,none⟩) y12.length y12.length) (fun b4=>aC (.slice (some ⟨b4,0,none⟩) y12.length y12.length) 4 aR y12) rfl (kH (t:=aR) (z:=false) rfl (has rfl) (et rfl) rfl wF rfl h14) (fun b4 u3=>?_)
 refine N_y (od:=od3 4 8 12 [] false (fun b2 _ b3 _ b4 _=>eC [fSl aD a0.AF,fSl aJ a0.AB,fSl aB a0.AD,fI a0.AG,fEq (.slice (some ⟨b2,0,none⟩) y10.length y10.length),fEq (.slice (some ⟨b3,0,none⟩) y11.length y11.length),fEq (.slice (some ⟨b4,0,none⟩) y12.length y12.length)]) (fun b2 _ b3 _ b4 _=>[])) (φ:=eC [fSl aD a0.AF,fSl aJ a0.AB,fSl aB a0.AD,fI a0.AG,fEq (.slice (some ⟨b2,0,none⟩) y10.length y10.length),fEq (.slice (some ⟨b3,0,none⟩) y11.length y11.length),fEq (.slice (some ⟨b4,0,none⟩) y12.length y12.length)]) rfl (fun _=>rfl) a1F rfl (gL (ψs:=[fSl aD a0.AF,fSl aJ a0.AB,fSl aB a0.AD,fI a0.AG,fEq (.slice (some ⟨b2,0,none⟩) y10.length y10.length),fEq (.slice (some ⟨b3,0,none⟩) y11.length y11.length),fEq (.slice (some ⟨b4,0,none⟩) y12.length y12.length)]) rfl aIs rfl (bW.cons (has rfl) bM (bW.cons (has rfl) (cL (aF a1F)) (bW.cons (has rfl) (cL (aF a1F)) (bW.cons (has rfl) (cL (aF a1F)) bW.nil)))) rfl) (fun _=>?_)
 refine N_new (od:=odN3 4 8 12 [4] true (fun b2 _ b3 _ b4 _ b5 _=>fEq (ptr b5)) (fun b2 _ b3 _ b4 _ b5 _=>[aA b5 131 [fSl aD a0.AF,fSl aJ a0.AB,fSl aB a0.AD,fI a0.AG,fEq (.slice (some ⟨b2,0,none⟩) y10.length y10.length),fEq (.slice (some ⟨b3,0,none⟩) y11.length y11.length),fEq (.slice (some ⟨b4,0,none⟩) y12.length y12.length)]])) (p:=4) (f:=fun b5=>ptr b5) (τ:=fun b5=>aA b5 131 [fSl aD a0.AF,fSl aJ a0.AB,fSl aB a0.AD,fI a0.AG,fEq (.slice (some ⟨b2,0,none⟩) y10.length y10.length),fEq (.slice (some ⟨b3,0,none⟩) y11.length y11.length),fEq (.slice (some ⟨b4,0,none⟩) y12.length y12.length)]) rfl (fun _=>rfl) (fun _=>rfl) a1F rfl rfl (bU rfl (has rfl) bM) (fun b5 u4=>?_)
 refine D1 14 b5 _ (fun b5 _=>fEq (ptr b5)) rfl (aBK rfl hh) (fun _=>?_)
 refine Z1 ?_
 generalize (Value.slice (some ⟨b2,0,none⟩) _ _)=v1
 refine rc 1 fun _=>?_
 generalize (Value.slice (some ⟨b3,0,none⟩) _ _)=v2
 refine rc 2 fun _=>?_
 generalize (Value.slice (some ⟨b4,0,none⟩) _ _)=v3
 refine rc 3 fun _=>?_
 refine Z8 ?_
 refine cZ ?_
 refine cZ ?_
 refine cZ ?_
 refine bG ?_
 refine zL ?_
 refine bz H fun y13 h15 H=>?_
 rcases y13 with y13 | pv7 <;> dsimp only at H
 refine Tc (aER _ _ _ _ _ _ h15).s ?_
 refine xT (fun v4 v5 v6=>?_)
 refine rc 1 fun _=>?_
 refine rc 2 fun _=>?_
 refine rc 3 fun _=>?_
 revert H;refine B1z fun o4 H Hr4=>?_
 refine aO (fun i=>o4=Sum.inl i) (fun i=>[(5,fEq (ptr b5))]) (fun i=>[aA b5 131 [fSl aD y13.p.AF,fSl aJ y13.p.AB,fSl aB y13.p.AD,fI y13.p.AG,fEq v4,fSl aR y13.AR,fSl aR i],aA b1 26 [fSl aD a0.AF,fSl aJ a0.AB,fSl aB a0.AD,fI a0.AG],aC v4 3 tI y13.Aa]) ?_ ?_
 refine Z5 ?_
 refine dK ?_
 refine bT (φ:=fSl aR y13.AR) (v:=v5) [74] cM fz ?_
 refine dO (φs':=[fSl aD y13.p.AF,fSl aJ y13.p.AB,fSl aB y13.p.AD,fI y13.p.AG,fEq v4,fSl aR y13.AR,fEq v6]) (i:=5) rfl rfl ?_
 refine bQ ?_
 revert H;refine bs fun y14 h16 H=>?_
 refine Tc (aFP _ _ _ _ h16) ?_
 refine Z2 ?_
 revert H;refine cs (fun c6 H=>?_) fun c6 H=>?_
 refine Z4 ?_
 refine dK ?_
 refine bT (φ:=fSl aR y13.Ae) (v:=v6) [81] cM fz ?_
 refine dO (φs':=[fSl aD y13.p.AF,fSl aJ y13.p.AB,fSl aB y13.p.AD,fI y13.p.AG,fEq v4,fSl aR y13.AR,fSl aR y13.Ae]) (i:=6) rfl rfl ?_
 refine bQ ?_
 revert H;refine bs fun y15 h17 H=>?_
 refine Tc (aFP _ _ _ _ h17) ?_
 revert H;refine B2z fun y16 h18 H=>?_
 rcases y16 with y16 | pv8 <;> dsimp only at H
 refine Tc (bA _ _ h18).s ?_
 refine Z1 ?_
 refine aE [0,2,1] (by decide) ?_
 exact Tm (y13.Ae) (ij H)
 refine Tp (bA _ _ h18).pan ?_
 revert H;refine B1z fun r10 H e10=>?_
 cases e10;cases Hr4
 cases H
 exact cF
 revert H;refine B7z fun y17 h19 H=>?_
 rcases y17 with y17 | pv9 <;> dsimp only at H
 refine Tc (bA _ _ h19).s ?_
 refine Z1 ?_
 refine dK ?_
 refine bT (φ:=fSl aR y13.Ae) (v:=v6) [] cM (fun _ h=>nomatch h) ?_
 refine dO (φs':=[fSl aD y13.p.AF,fSl aJ y13.p.AB,fSl aB y13.p.AD,fI y13.p.AG,fEq v4,fSl aR y13.AR,fSl aR y13.Ae]) (i:=6) rfl rfl ?_
 refine bQ ?_
 refine aE [0,2,1] (by decide) ?_
 exact Tm (y13.Ae) (ij H)
 refine Tp (bA _ _ h19).pan ?_
 revert H;refine B1z fun r11 H e11=>?_
 cases e11;cases Hr4
 cases H
 exact cF
 rintro x3 hi;subst o4;replace H:=Hr4;clear Hr4;try dsimp only at H ⊢
 refine Z5 ?_
 refine dK ?_
 refine bT (φ:=fSl tI y13.Aa) (v:=v4) [] cM (fun _ h=>nomatch h) ?_
 refine dO (φs':=[fSl aD y13.p.AF,fSl aJ y13.p.AB,fSl aB y13.p.AD,fI y13.p.AG,fSl tI y13.Aa,fSl aR y13.AR,fSl aR x3]) (i:=4) rfl rfl ?_
 refine bQ ?_
 refine bT (φ:=aL cH (⟨y13.p,y13.Aa,y13.AR,x3⟩:Af)) (v:=ptr b5) [5,86,2] (fA aK.rfl) fz ?_
 refine bQ ?_
 cases H
 refine pR ?_
 refine aE [] (by decide) ?_
 exact To
 refine Tp (aER _ _ _ _ _ _ h15).pan ?_
 refine Z1 ?_
 cases H
 exact cF
 exact fk
 kernel_rfl
def aBH (AA:Nat) (a0:AJ) (a1:Af->Option Bool):Option (Bool × Int):=
 (tN AA (⟨a0.AF,a0.AB,a0.AD,a0.AG⟩:AJ)).bind fun y1=>
 match y1 with
 | Sum.inr pv1=>(unI 245 pv1).bind fun e1=>some (false,e1)
 | Sum.inl y1=>
 (a1 y1).bind fun y2=>
 some (y2,0)
theorem aIz (AA:Nat)  (a0:AJ) (a1:Af->Option Bool) (r:Bool × Int) (H:aBH AA a0 a1=some r):FnS Tryz.prog 110 [fSt dQ a0,fFn Tryz.prog (fun (x:Af)=>[aL cH x]) (fun (r:Bool)=>aH r) a1] [] (dB [aH r.1,fI r.2]) (fun _=>[]):=by
 unfold aBH at H
 refine aBP Tryz.func110 rfl Tryz.ntmps110 rfl (fun β=>?_)
 refine Z1 ?_
 refine Tn (bU rfl hh bM) fun b1=>?_
 refine Z1 ?_
 refine Tn (cB rfl aCk rfl) fun b2=>?_
 refine Z2 ?_
 refine aDn a1F rfl rfl (gS.cons (has rfl) gS.nil) ?_
 refine B4 H fun y1 h1 H=>?_
 rcases y1 with y1 | pv1 <;> dsimp only at H
 refine Tc (wN _ _ _ h1).s ?_
 refine bz H fun y2 h2 H=>?_
 refine yS y1 a1F rfl rfl rfl (has rfl) (aP.cons (has rfl) aP.nil) h2 ?_
 refine Z1 ?_
 refine bK (φs':=[fI 0]) a1F rfl rfl (has rfl) (has rfl) (aF a1F) (sz rfl) rfl rfl ?_
 refine Z2 ?_
 cases H
 refine aE [0] (by decide) ?_
 exact aCb (vV (u:= .returning) (by simp) rfl (bO rfl) rfl (sc rfl) (cb rfl) (aCt b2 0) rfl rfl)
 refine Tp (wN _ _ _ h1).pan ?_
 refine Z1 ?_
 have H0:=H;clear H;obtain⟨e1,h3,H⟩:=bind_some H0;clear H0;have hv_e1:=aC3 h3;subst hv_e1
 cases H
 refine aE [0] (by decide) ?_
 exact aDZ (vV (u:= .panicking [{ v:= .iface 245 (.agg #[.int .i64 e1]),recovered:=false }]) (by simp) rfl (bO rfl) rfl (sc rfl) (cb rfl) (aD0 b2 0 e1) rfl rfl)
def aBn (a0:Af):Option (Bool):=
 some true
theorem aI2  (a0:Af) (r:Bool) (H:aBn a0=some r):FnS Tryz.prog 111 [aL cH a0] [] (aH r) (fun _=>[]):=by
 unfold aBn at H
 refine bB Tryz.func111 rfl Tryz.ntmps111 rfl (fun β=>?_)
 refine Z7 ?_
 cases H
 exact To
def uX (AA:Nat) (a0:AJ):Option (Int):=
 (aBH AA (⟨a0.AF,a0.AB,a0.AD,a0.AG⟩:AJ) (fun x=>aBn x)).bind fun y1=>
 some y1.2
theorem aLq (AA:Nat)  (a0:AJ) (r:Int) (H:uX AA a0=some r):FnS Tryz.prog 78 [fSt dQ a0] [] (fI r) (fun _=>[]):=by
 unfold uX at H
 refine bB Tryz.func78 rfl Tryz.ntmps78 rfl (fun β=>?_)
 refine Z1 ?_
 refine Tn (bU rfl hh bM) fun b1=>?_
 refine B4 H fun y1 h1 H=>?_
 refine oX a1F rfl rfl rfl hh (aP.cons hh (aP.cons (fY rfl (aCr (cb rfl) (fun x r hx=>aI2 x r hx))) aP.nil)) rfl (cb rfl) (aIz AA a0 (fun x=>aBn x) y1 h1) rfl ?_
 refine Z11 ?_
 cases H
 refine aE [] (by decide) ?_
 exact To
def oN (a0:AH):Nat->Int->Option ((Unit) ⊕ (Option Ai))
| 0,_=>none
| k+1,x2=>
 if x2<(a0.AD.length:Int)then
  (idx a0.AD x2).bind fun y2=>
  if 30<(y2.AT.length:Int)then
   (some none).bind fun r=>some (Sum.inr r)
  else
   if 30<(y2.AS.length:Int)then
    (some none).bind fun r=>some (Sum.inr r)
   else
    (chk (x2+1)).bind fun z1=>
    oN a0 k z1
 else
  some (Sum.inl ())
def vI (AA:Nat) (a0:AH):Option (Option Ai):=
 if 60<(a0.AB.length:Int)then
  some none
 else
  if 12<(a0.AF.length:Int)then
   some none
  else
   if 12<(a0.AD.length:Int)then
    some none
   else
    (oE AA a0.AI (a0.AF.length:Int)).bind fun y1=>
    bif y1 then
     (oN a0 AA 0).bind fun o=>match o with
     | Sum.inr r=>some r
     | Sum.inl _=>
     (mk [] (a0.AB.length:Int)).bind fun y3=>
     (mk [] (a0.AB.length:Int)).bind fun y4=>
     (mk false (a0.AB.length:Int)).bind fun y5=>
     (aA5 a0.AF).bind fun y6=>
     (mk (⟨0,0,[],[]⟩:AZ) (a0.AB.length:Int)).bind fun y7=>
     (yF AA a0.AD).bind fun y8=>
     (jR a0.AI).bind fun y9=>
     (eL AA (⟨(⟨a0.AF,a0.AI,a0.AB,a0.AD,a0.AG⟩:AH),y3,y4,y5,(⟨y6,y7,y8,a0.AG⟩:AJ)⟩:Ai) a0.AG y9 (a0.AF.length:Int)).bind fun y10=>
     bif !y10.2 then
      some none
     else
      (uX AA (⟨y10.1.AO.AF,y10.1.AO.AB,y10.1.AO.AD,y10.1.AO.AG⟩:AJ)).bind fun y11=>
      if y11≠0 then
       some none
      else
       some (some (⟨(⟨y10.1.AH.AF,y10.1.AH.AI,y10.1.AH.AB,y10.1.AH.AD,y10.1.AH.AG⟩:AH),y10.1.AY,y10.1.AU,y10.1.AP,(⟨y10.1.AO.AF,y10.1.AO.AB,y10.1.AO.AD,y10.1.AO.AG⟩:AJ)⟩:Ai))
    else
     some none
theorem aHy (AA:Nat)  (a0:AH) (r:Option Ai) (H:vI AA a0=some r):FnS Tryz.prog 45 [fSt jB a0] [] (fOpt aA8 r) (fun _=>[]):=by
 unfold vI at H
 refine bB Tryz.func45 rfl Tryz.ntmps45 rfl (fun β=>?_)
 refine Z1 ?_
 refine Tn (bU rfl hh bM) fun b1=>?_
 refine Z2 ?_
 refine aG ?_
 refine I6 H (fun c1 H=>?_) fun c1 H=>?_
 refine Z12 ?_
 refine Z12 ?_
 refine Z2 ?_
 cases H
 refine aE [] (by decide) ?_
 exact fV rfl (fF rfl pI) rfl
 refine I6 H (fun c2 H=>?_) fun c2 H=>?_
 refine Z12 ?_
 refine Z8 ?_
 cases H
 refine aE [] (by decide) ?_
 exact fV rfl (fF rfl pI) rfl
 refine I6 H (fun c3 H=>?_) fun c3 H=>?_
 refine Z12 ?_
 refine Z2 ?_
 cases H
 refine aE [] (by decide) ?_
 exact fV rfl (fF rfl pI) rfl
 refine B5 H fun y1 h1 H=>?_
 refine Tc (aDU _ _ _ _ h1) ?_
 refine Z3 ?_
 refine cz H (fun c4 H=>?_) fun c4 H=>?_
 revert H;refine B3z fun o1 H Hr1=>?_
 refine aO (ι:=Unit) (fun i=>o1=Sum.inl ()) (fun i=>[(1,fEq (ptr b1))]) (fun i=>[aA b1 30 [fSl aD a0.AF,fSl tI a0.AI,fSl aW a0.AB,fSl aB a0.AD,fI a0.AG]]) ?_ ?_
 refine Z7 ?_
 refine Th (ι:=Int) (fun i=>oN a0 i.1 i.2=_) (fun i=>[(1,fEq (ptr b1)),(33,fSl aB a0.AD),(34,fI (a0.AD.length:Int)),(35,fI i.2)]) (fun i=>[aA b1 30 [fSl aD a0.AF,fSl tI a0.AI,fSl aW a0.AB,fSl aB a0.AD,fI a0.AG]]) (AA,0) H (fun _ h=>nomatch h) ?_
 clear H;rintro k1 x2 H;dsimp only at H ⊢;rw [oN]at H
 refine Z3 ?_
 refine aG ?_
 revert H;refine is (fun c5 H=>?_) fun c5 H=>?_
 refine Z3 ?_
 refine aG ?_
 revert H;refine B2z fun y2 h2 H=>?_
 refine Z2 ?_
 refine Tn (cB rfl oP rfl) fun b2=>?_
 refine cO (φs':=[fSl aZ y2.AT,fSl aU y2.AS,fSl aY y2.AQ]) a1F rfl rfl (has rfl) (has rfl) (aI (aS) (aI (aS) (aI (aS) bN))) (sz rfl) rfl rfl rfl ?_
 revert H;refine I7z (fun c6 H=>?_) fun c6 H=>?_
 refine Z12 ?_
 revert H;refine B4z fun r1 H e1=>?_
 cases e1;cases Hr1
 cases H
 refine aE [] (by decide) ?_
 exact fV rfl (fF rfl pI) rfl
 revert H;refine I6z (fun c7 H=>?_) fun c7 H=>?_
 revert H;refine dS fun r2 H e2=>?_
 cases e2;cases Hr1
 cases H
 refine aE [] (by decide) ?_
 exact fV rfl (fF rfl pI) rfl
 revert H;refine B5z fun z1 h3 H=>?_
 refine Z3 ?_
 refine aE [1] (by decide) ?_
 exact Tm ((k1,z1)) ⟨H,ls⟩
 refine Z6 ?_
 exact Tm (()) (ij H)
 rintro i hi;subst o1;replace H:=Hr1;clear Hr1;try dsimp only at H ⊢
 refine Z6 ?_
 refine aG ?_
 refine bz H fun y3 h4 H=>?_
 refine bz H fun y4 h5 H=>?_
 refine bz H fun y5 h6 H=>?_
 apply bD (ods:=[_,_,_,_,_,_,_,_,_,_]) 10 4 5 bC rfl rfl rfl
 refine ND ?_
 refine M2 ?_
 intros
 refine Mn 1 (fun b3=> .slice (some ⟨b3,0,none⟩) y3.length y3.length) (fun b3=>aC (.slice (some ⟨b3,0,none⟩) y3.length y3.length) 27 (tSl tI) y3) rfl (uW (t:=(tSl tI)) (z:=[]) rfl (has rfl) (et rfl) rfl wW (aK.cons cC aK.nil) h4) (fun b3 u1=>?_)
 refine M1 ?_
 intros
 refine Mn 2 (fun b4=> .slice (some ⟨b4,0,none⟩) y4.length y4.length) (fun b4=>aC (.slice (some ⟨b4,0,none⟩) y4.length y4.length) 27 (tSl tI) y4) rfl (uW (t:=(tSl tI)) (z:=[]) rfl (has rfl) (et rfl) rfl wW (aK.cons cC aK.nil) h5) (fun b4 u2=>?_)
 refine M1 ?_
 intros
 refine Mn 3 (fun b5=> .slice (some ⟨b5,0,none⟩) y5.length y5.length) (fun b5=>aC (.slice (some ⟨b5,0,none⟩) y5.length y5.length) 4 aR y5) rfl (kH (t:=aR) (z:=false) rfl (has rfl) (et rfl) rfl wF rfl h6) (fun b5 u3=>?_)
 refine N_y (od:=od3 2 4 6 [] false (fun b3 _ b4 _ b5 _=>eC [fSl aD a0.AF,fSl tI a0.AI,fSl aW a0.AB,fSl aB a0.AD,fI a0.AG,fEq (.slice (some ⟨b3,0,none⟩) y3.length y3.length),fEq (.slice (some ⟨b4,0,none⟩) y4.length y4.length),fEq (.slice (some ⟨b5,0,none⟩) y5.length y5.length),fEq (.slice none 0 0),fEq (.slice none 0 0),fEq (.slice none 0 0),fI 0]) (fun b3 _ b4 _ b5 _=>[])) (φ:=eC [fSl aD a0.AF,fSl tI a0.AI,fSl aW a0.AB,fSl aB a0.AD,fI a0.AG,fEq (.slice (some ⟨b3,0,none⟩) y3.length y3.length),fEq (.slice (some ⟨b4,0,none⟩) y4.length y4.length),fEq (.slice (some ⟨b5,0,none⟩) y5.length y5.length),fEq (.slice none 0 0),fEq (.slice none 0 0),fEq (.slice none 0 0),fI 0]) rfl (fun _=>rfl) a1F rfl (gL (ψs:=[fSl aD a0.AF,fSl tI a0.AI,fSl aW a0.AB,fSl aB a0.AD,fI a0.AG,fEq (.slice (some ⟨b3,0,none⟩) y3.length y3.length),fEq (.slice (some ⟨b4,0,none⟩) y4.length y4.length),fEq (.slice (some ⟨b5,0,none⟩) y5.length y5.length),fEq (.slice none 0 0),fEq (.slice none 0 0),fEq (.slice none 0 0),fI 0]) rfl aJP rfl (bW.cons (has rfl) bM (bW.cons (has rfl) (cL (aF a1F)) (bW.cons (has rfl) (cL (aF a1F)) (bW.cons (has rfl) (cL (aF a1F)) bW.nil)))) rfl) (fun _=>?_)
 refine N_new (od:=odN3 2 4 6 [4] true (fun b3 _ b4 _ b5 _ b6 _=>fEq (ptr b6)) (fun b3 _ b4 _ b5 _ b6 _=>[aA b6 113 [fSl aD a0.AF,fSl tI a0.AI,fSl aW a0.AB,fSl aB a0.AD,fI a0.AG,fEq (.slice (some ⟨b3,0,none⟩) y3.length y3.length),fEq (.slice (some ⟨b4,0,none⟩) y4.length y4.length),fEq (.slice (some ⟨b5,0,none⟩) y5.length y5.length),fEq (.slice none 0 0),fEq (.slice none 0 0),fEq (.slice none 0 0),fI 0]])) (p:=4) (f:=fun b6=>ptr b6) (τ:=fun b6=>aA b6 113 [fSl aD a0.AF,fSl tI a0.AI,fSl aW a0.AB,fSl aB a0.AD,fI a0.AG,fEq (.slice (some ⟨b3,0,none⟩) y3.length y3.length),fEq (.slice (some ⟨b4,0,none⟩) y4.length y4.length),fEq (.slice (some ⟨b5,0,none⟩) y5.length y5.length),fEq (.slice none 0 0),fEq (.slice none 0 0),fEq (.slice none 0 0),fI 0]) rfl (fun _=>rfl) (fun _=>rfl) a1F rfl rfl (bU rfl (has rfl) bM) (fun b6 u4=>?_)
 refine D1 8 b6 _ (fun b6 _=>fEq (ptr b6)) rfl (aBK rfl hh) (fun _=>?_)
 refine Z1 ?_
 generalize (Value.slice (some ⟨b3,0,none⟩) _ _)=v1
 refine rc 1 fun _=>?_
 generalize (Value.slice (some ⟨b4,0,none⟩) _ _)=v2
 refine rc 2 fun _=>?_
 generalize (Value.slice (some ⟨b5,0,none⟩) _ _)=v3
 refine rc 3 fun _=>?_
 refine Z1 ?_
 refine aG ?_
 refine bz H fun y6 h7 H=>?_
 refine bz H fun y7 h8 H=>?_
 refine bz H fun y8 h9 H=>?_
 apply bD (ods:=[_,_,_,_,_,_,_,_,_,_,_,_,_,_,_]) 15 1 6 bC rfl rfl rfl
 refine ND ?_
 refine M3 ?_
 intros
 refine Nc (aJO _ _ h7) fun _=>?_
 refine M1 ?_
 intros
 refine Mn 5 (fun b7=> .slice (some ⟨b7,0,none⟩) y7.length y7.length) (fun b7=>aC (.slice (some ⟨b7,0,none⟩) y7.length y7.length) 65 aJ y7) rfl (uW (t:=aJ) (z:=(⟨0,0,[],[]⟩:AZ)) rfl (has rfl) (et rfl) rfl jV (aK.cons Ent.rfl (aK.cons Ent.rfl (aK.cons cC (aK.cons cC aK.nil)))) h8) (fun b7 u5=>?_)
 refine M2 ?_
 intros
 refine Nc (aJN _ _ _ h9) fun _=>?_
 refine M2 ?_
 intros
 refine D1 5 b7 _ (fun b7 _=>eC [fSl aD y6,fEq (.slice (some ⟨b7,0,none⟩) y7.length y7.length),fSl aB y8,fI a0.AG]) rfl (gL (ψs:=[fSl aD y6,fEq (.slice (some ⟨b7,0,none⟩) y7.length y7.length),fSl aB y8,fI a0.AG]) rfl aBA rfl (bW.cons (has rfl) (cL (aS)) (bW.cons (has rfl) (cL (aF a1F)) (bW.cons (has rfl) (cL (aS)) (bW.cons (has rfl) (cL (aF a1F)) bW.nil)))) rfl) (fun _=>?_)
 refine M2 ?_
 intros
 refine mS (od:=od1 5 [4] true (fun b7 _=>dP) (fun b7 _=>[aA b6 113 [fSl aD a0.AF,fSl tI a0.AI,fSl aW a0.AB,fSl aB a0.AD,fI a0.AG,fEq v1,fEq v2,fEq v3,fSl aD y6,fEq (.slice (some ⟨b7,0,none⟩) y7.length y7.length),fSl aB y8,fI a0.AG]])) (p:=4) (φs':=[fSl aD a0.AF,fSl tI a0.AI,fSl aW a0.AB,fSl aB a0.AD,fI a0.AG,fEq v1,fEq v2,fEq v3,fSl aD y6,fEq (.slice (some ⟨b7,0,none⟩) y7.length y7.length),fSl aB y8,fI a0.AG]) rfl (fun _=>rfl) (fun _=>rfl) a1F rfl rfl rfl (has rfl) (has rfl) (aI (aS) (aI (aF a1F) (aI (aS) (aI (aF a1F) bN)))) (sz rfl) rfl rfl rfl (fun _=>?_)
 refine Z1 ?_
 generalize (Value.slice (some ⟨b7,0,none⟩) _ _)=v4
 refine rc 5 fun _=>?_
 refine Z1 ?_
 refine aG ?_
 refine aG ?_
 refine bz H fun y9 h10 H=>?_
 apply bD (ods:=[_,_,_,_,_,_,_,_,_]) 9 0 6 bC rfl rfl rfl
 refine ND ?_
 refine M5 ?_
 intros
 refine aD3 (od:=odC [] true (fSl tI y9) []) (Φ:=fSl tI y9) rfl (fun _=>rfl) a1F rfl rfl (has rfl) (aP.cons (has rfl) aP.nil) rfl (cb rfl) (aCS a0.AI y9 h10) (fun _=>?_)
 refine M3 ?_
 intros
 refine Z1 ?_
 refine cP ?_
 refine bG ?_
 refine bG ?_
 refine bG ?_
 refine cP ?_
 refine eM ?_
 refine bz H fun y10 h11 H=>?_
 refine Tc (aLd _ _ _ _ _ _ _ h11) ?_
 refine lW (fun v5 v6 v7 v8=>?_)
 refine rc 1 fun _=>?_
 refine rc 2 fun _=>?_
 refine rc 3 fun _=>?_
 refine rc 4 fun _=>?_
 refine Z2 ?_
 refine cz H (fun c8 H=>?_) fun c8 H=>?_
 refine Z12 ?_
 refine Z1 ?_
 cases H
 refine aE [] (by decide) ?_
 exact fV rfl (fF rfl pI) rfl
 refine Z4 ?_
 refine bG ?_
 refine bT (φ:=fSl aJ y10.1.AO.AB) (v:=v8) [] cM (fun _ h=>nomatch h) ?_
 refine dO (φs':=[fSl aD y10.1.AH.AF,fSl tI y10.1.AH.AI,fSl aW y10.1.AH.AB,fSl aB y10.1.AH.AD,fI y10.1.AH.AG,fEq v5,fEq v6,fEq v7,fSl aD y10.1.AO.AF,fSl aJ y10.1.AO.AB,fSl aB y10.1.AO.AD,fI y10.1.AO.AG]) (i:=9) rfl rfl ?_
 refine lN 91 (ψ:=eC [fSl aD y10.1.AO.AF,fEq v8,fSl aB y10.1.AO.AD,fI y10.1.AO.AG]) rfl (lA (i:=1) (φs:=[fSl aD y10.1.AO.AF,fEq v8,fSl aB y10.1.AO.AD,fI y10.1.AO.AG]) (φs':=[fSl aD y10.1.AO.AF,fSl aJ y10.1.AO.AB,fSl aB y10.1.AO.AD,fI y10.1.AO.AG]) rfl rfl) ?_
 refine bQ ?_
 refine bz H fun y11 h12 H=>?_
 refine Tc (aLq _ _ _ h12) ?_
 refine I3 H (fun c9 H=>?_) fun c9 H=>?_
 refine Z5 ?_
 cases H
 refine aE [] (by decide) ?_
 exact fV rfl (fF rfl pI) rfl
 refine Z8 ?_
 refine bH ?_
 refine bT (φ:=fSl (tSl tI) y10.1.AY) (v:=v5) [] cM (fun _ h=>nomatch h) ?_
 refine dO (φs':=[fSl aD y10.1.AH.AF,fSl tI y10.1.AH.AI,fSl aW y10.1.AH.AB,fSl aB y10.1.AH.AD,fI y10.1.AH.AG,fSl (tSl tI) y10.1.AY,fEq v6,fEq v7,fSl aD y10.1.AO.AF,fSl aJ y10.1.AO.AB,fSl aB y10.1.AO.AD,fI y10.1.AO.AG]) (i:=5) rfl rfl ?_
 refine bQ ?_
 refine bH ?_
 refine bT (φ:=fSl (tSl tI) y10.1.AU) (v:=v6) [] cM (fun _ h=>nomatch h) ?_
 refine dO (φs':=[fSl aD y10.1.AH.AF,fSl tI y10.1.AH.AI,fSl aW y10.1.AH.AB,fSl aB y10.1.AH.AD,fI y10.1.AH.AG,fSl (tSl tI) y10.1.AY,fSl (tSl tI) y10.1.AU,fEq v7,fSl aD y10.1.AO.AF,fSl aJ y10.1.AO.AB,fSl aB y10.1.AO.AD,fI y10.1.AO.AG]) (i:=6) rfl rfl ?_
 refine bQ ?_
 refine bH ?_
 refine bT (φ:=fSl aR y10.1.AP) (v:=v7) [] cM (fun _ h=>nomatch h) ?_
 refine dO (φs':=[fSl aD y10.1.AH.AF,fSl tI y10.1.AH.AI,fSl aW y10.1.AH.AB,fSl aB y10.1.AH.AD,fI y10.1.AH.AG,fSl (tSl tI) y10.1.AY,fSl (tSl tI) y10.1.AU,fSl aR y10.1.AP,fSl aD y10.1.AO.AF,fSl aJ y10.1.AO.AB,fSl aB y10.1.AO.AD,fI y10.1.AO.AG]) (i:=7) rfl rfl ?_
 refine bQ ?_
 refine bT (φ:=aL aA8 y10.1) (v:=ptr b6) [61,6,62,74,76,88,89,95,2] (fA aK.rfl) fz ?_
 refine bQ ?_
 cases H
 refine aE [] (by decide) ?_
 exact fV rfl (fF rfl ent_optS) rfl
 exact fk
 kernel_rfl
 exact fk
 kernel_rfl
 exact fk
 kernel_rfl
 refine Z5 ?_
 cases H
 refine aE [] (by decide) ?_
 exact fV rfl (fF rfl pI) rfl
def qJ (AA:Nat) (a0:AH):Option (AJ × Int):=
 (vI AA (⟨a0.AF,a0.AI,a0.AB,a0.AD,a0.AG⟩:AH)).bind fun y1=>
 bif y1.isNone then
  some ((⟨[],[],[],0⟩:AJ),2)
 else
  (y1).bind fun y2=>
  some ((⟨y2.AO.AF,y2.AO.AB,y2.AO.AD,y2.AO.AG⟩:AJ),0)
theorem aIj (AA:Nat)  (a0:AH) (r:AJ × Int) (H:qJ AA a0=some r):FnS Tryz.prog 11 [fSt jB a0] [] (dB [fSt dQ r.1,fI r.2]) (fun _=>[]):=by
 unfold qJ at H
 refine bB Tryz.func11 rfl Tryz.ntmps11 rfl (fun β=>?_)
 refine Z1 ?_
 refine Tn (bU rfl hh bM) fun b1=>?_
 refine Tn (cB rfl aB8 rfl) fun b2=>?_
 refine B4 H fun y1 h1 H=>?_
 refine Tc (aHy _ _ _ h1) ?_
 refine Z2 ?_
 refine aG ?_
 refine Z2 ?_
 refine Yy (aGD rfl hh aHt) ?_
 refine Z1 ?_
 refine cz H (fun c1 H=>?_) fun c1 H=>?_
 refine Z2 ?_
 refine Yy (gL (ψs:=[fEq (.slice none 0 0),fEq (.slice none 0 0),fEq (.slice none 0 0),fI 0]) rfl aBA rfl bW.nil rfl) ?_
 refine cO (φs':=[fEq (.slice none 0 0),fEq (.slice none 0 0),fEq (.slice none 0 0),fI 0]) a1F rfl rfl (has rfl) (has rfl) (aI (aF a1F) (aI (aF a1F) (aI (aF a1F) (aI (aF a1F) bN)))) (sz rfl) rfl rfl rfl ?_
 refine Z3 ?_
 cases H
 refine aE [0] (by decide) ?_
 exact nX rfl (ag rfl) rfl (bO rfl) (bO rfl) (tT (aK.cons cC (aK.cons cC (aK.cons cC (aK.cons Ent.rfl aK.nil))))) rfl
 refine B5 H fun y2 h2 H=>?_
 refine mA 6 rfl (oW h2) ?_
 refine mA 4 rfl (oW h2) ?_
 refine mA 7 rfl (oW h2) ?_
 refine mA 10 rfl (oW h2) ?_
 refine Z3 ?_
 refine cO (φs':=[fSl aD y2.AO.AF,fSl aJ y2.AO.AB,fSl aB y2.AO.AD,fI y2.AO.AG]) a1F rfl rfl (has rfl) (has rfl) (aI (aS) (aI (aS) (aI (aS) (aI (aF a1F) bN)))) (sz rfl) rfl rfl rfl ?_
 refine Z3 ?_
 cases H
 refine aE [0] (by decide) ?_
 exact nX rfl (ag rfl) rfl (bO rfl) (bO rfl) Ent.rfl rfl
def tB (a0:List ByteArray) (a1:ByteArray):Nat->Int->Option ((Unit) ⊕ (Bool))
| 0,_=>none
| k+1,x2=>
 if x2<(a0.length:Int)then
  (idx a0 x2).bind fun y1=>
  if y1=a1 then
   (some true).bind fun r=>some (Sum.inr r)
  else
   (chk (x2+1)).bind fun z1=>
   tB a0 a1 k z1
 else
  some (Sum.inl ())
def yU (AA:Nat) (a0:List ByteArray) (a1:ByteArray):Option (Bool):=
 (tB a0 a1 AA 0).bind fun o=>match o with
 | Sum.inr r=>some r
 | Sum.inl _=>
 some false
theorem aK0 (AA:Nat)  (a0:List ByteArray) (a1:ByteArray) (r:Bool) (H:yU AA a0 a1=some r):FnS Tryz.prog 116 [fSl aD a0,gC a1] [] (aH r) (fun _=>[]):=by
 unfold yU at H
 refine bB Tryz.func116 rfl Tryz.ntmps116 rfl (fun β=>?_)
 revert H;refine B3z fun o1 H Hr1=>?_
 refine aO (ι:=Unit) (fun i=>o1=Sum.inl ()) (fun i=>[]) (fun i=>[]) ?_ ?_
 refine Z4 ?_
 refine Th (ι:=Int) (fun i=>tB a0 a1 i.1 i.2=_) (fun i=>[(0,fSl aD a0),(1,gC a1),(5,fI i.2)]) (fun i=>[]) (AA,0) H (fun _ h=>nomatch h) ?_
 clear H;rintro k1 x2 H;dsimp only at H ⊢;rw [tB]at H
 refine aG ?_
 revert H;refine I6z (fun c1 H=>?_) fun c1 H=>?_
 refine Z3 ?_
 refine aG ?_
 revert H;refine B4z fun y1 h1 H=>?_
 refine Z3 ?_
 refine Yy (o_eqlS rfl hh hh) ?_
 revert H;refine I1z (fun c2 H=>?_) fun c2 H=>?_
 revert H;refine dS fun r1 H e1=>?_
 cases e1;cases Hr1
 cases H
 exact To
 revert H;refine B6z fun z1 h2 H=>?_
 refine Z3 ?_
 exact Tm ((k1,z1)) ⟨H,ls⟩
 refine Z6 ?_
 exact Tm (()) (ij H)
 rintro i hi;subst o1;replace H:=Hr1;clear Hr1;try dsimp only at H ⊢
 refine Z4 ?_
 cases H
 exact To
open Go.SX Go.SW Go.Dt
def uQ (a0:ByteArray):Nat->Int->Option ((Unit) ⊕ (Bool))
| 0,_=>none
| k+1,x2=>
 if x2<(a0.size:Int)then
  (sidx a0 x2).bind fun z1=>
  if z1<97 then
   (some false).bind fun r=>some (Sum.inr r)
  else
   (sidx a0 x2).bind fun z2=>
   if 122<z2 then
    (some false).bind fun r=>some (Sum.inr r)
   else
    (chk (x2+1)).bind fun z3=>
    uQ a0 k z3
 else
  some (Sum.inl ())
def uF (AA:Nat) (a0:ByteArray):Option (Bool):=
 if (a0.size:Int)<1 then
  some false
 else
  if 8<(a0.size:Int)then
   some false
  else
   (uQ a0 AA 0).bind fun o=>match o with
   | Sum.inr r=>some r
   | Sum.inl _=>
   (yU AA [{ data:=#[97,110,100] },{ data:=#[100,101,102] },{ data:=#[101,108,115,101] },{ data:=#[103,111] },{ data:=#[105,102] },{ data:=#[105,110] },{ data:=#[112,108,97,99,101] },{ data:=#[115,116,111,112] },{ data:=#[116,104,101,110] },{ data:=#[119,97,116,99,104] }] a0).bind fun y1=>
   some (!y1)
theorem aCM (AA:Nat)  (a0:ByteArray) (r:Bool) (H:uF AA a0=some r):FnS Tryz.prog 82 [gC a0] [] (aH r) (fun _=>[]):=by
 unfold uF at H
 refine bB Tryz.func82 rfl Tryz.ntmps82 rfl (fun β=>?_)
 refine Z3 ?_
 refine aG ?_
 refine Z2 ?_
 refine Yy (uJ rfl hh lV) ?_
 refine I2 H (fun c1 H=>?_) fun c1 H=>?_
 refine Z10 ?_
 cases H
 exact To
 refine Z1 ?_
 refine Yg c1 (uJ rfl hh lV) ?_
 refine I3 H (fun c2 H=>?_) fun c2 H=>?_
 refine Z5 ?_
 cases H
 exact To
 revert H;refine B3z fun o1 H Hr1=>?_
 refine aO (ι:=Unit) (fun i=>o1=Sum.inl ()) (fun i=>[(0,gC a0)]) (fun i=>[]) ?_ ?_
 refine Z4 ?_
 refine Th (ι:=Int) (fun i=>uQ a0 i.1 i.2=_) (fun i=>[(0,gC a0),(3,fI i.2)]) (fun i=>[]) (AA,0) H (fun _ h=>nomatch h) ?_
 clear H;rintro k1 x2 H;dsimp only at H ⊢;rw [uQ]at H
 refine aG ?_
 refine Z3 ?_
 refine Yy (uJ rfl hh lV) ?_
 revert H;refine I2z (fun c3 H=>?_) fun c3 H=>?_
 refine Z3 ?_
 refine aG ?_
 revert H;refine B4z fun z1 h1 H=>?_
 refine Yy (aBw rfl hh hh lV h1) ?_
 revert H;refine I2z (fun c4 H=>?_) fun c4 H=>?_
 refine Z12 ?_
 revert H;refine B4z fun r1 H e1=>?_
 cases e1;cases Hr1
 cases H
 exact To
 revert H;refine B2z fun z2 h2 H=>?_
 refine Yg c4 (aBw rfl hh hh lV h2) ?_
 revert H;refine I3z (fun c5 H=>?_) fun c5 H=>?_
 revert H;refine dS fun r2 H e2=>?_
 cases e2;cases Hr1
 cases H
 exact To
 revert H;refine B6z fun z3 h3 H=>?_
 refine Z3 ?_
 exact Tm ((k1,z3)) ⟨H,ls⟩
 refine Z6 ?_
 exact Tm (()) (ij H)
 rintro i hi;subst o1;replace H:=Hr1;clear Hr1;try dsimp only at H ⊢
 refine Z1 ?_
 refine Tn (eQ (t:=aD) (xs:=[{ data:=#[97,110,100] },{ data:=#[100,101,102] },{ data:=#[101,108,115,101] },{ data:=#[103,111] },{ data:=#[105,102] },{ data:=#[105,110] },{ data:=#[112,108,97,99,101] },{ data:=#[115,116,111,112] },{ data:=#[116,104,101,110] },{ data:=#[119,97,116,99,104] }]) rfl (et rfl) (bY.cons rfl (has rfl) (cL (aF a1F)) (bY.cons rfl (has rfl) (cL (aF a1F)) (bY.cons rfl (has rfl) (cL (aF a1F)) (bY.cons rfl (has rfl) (cL (aF a1F)) (bY.cons rfl (has rfl) (cL (aF a1F)) (bY.cons rfl (has rfl) (cL (aF a1F)) (bY.cons rfl (has rfl) (cL (aF a1F)) (bY.cons rfl (has rfl) (cL (aF a1F)) (bY.cons rfl (has rfl) (cL (aF a1F)) (bY.cons rfl (has rfl) (cL (aF a1F)) bY.nil)))))))))) rfl rfl rfl) fun b1=>?_
 generalize (Value.slice (some ⟨b1,0,none⟩) _ _)=v1
 refine rc 0 fun _=>?_
 refine Z1 ?_
 refine bT (φ:=fSl aD [{ data:=#[97,110,100] },{ data:=#[100,101,102] },{ data:=#[101,108,115,101] },{ data:=#[103,111] },{ data:=#[105,102] },{ data:=#[105,110] },{ data:=#[112,108,97,99,101] },{ data:=#[115,116,111,112] },{ data:=#[116,104,101,110] },{ data:=#[119,97,116,99,104] }]) (v:=v1) [28] cM fz ?_
 refine bQ ?_
 refine bz H fun y1 h4 H=>?_
 refine Tc (aK0 _ _ _ _ h4) ?_
 refine Z4 ?_
 cases H
 exact To
open Go.SX Go.SW Go.Dt
def qK (a0:AN):Nat->Int->Option ((Unit) ⊕ (Bool))
| 0,_=>none
| k+1,x2=>
 if x2<(a0.AT.length:Int)then
  (idx a0.AT x2).bind fun y1=>
  if y1.At<0 then
   (some false).bind fun r=>some (Sum.inr r)
  else
   (idx a0.AT x2).bind fun y2=>
   if (a0.AS.length:Int)<y2.At then
    (some false).bind fun r=>some (Sum.inr r)
   else
    (idx a0.AT x2).bind fun y3=>
    if y3.Ar<0 then
     (some false).bind fun r=>some (Sum.inr r)
    else
     (idx a0.AT x2).bind fun y4=>
     if 3<y4.Ar then
      (some false).bind fun r=>some (Sum.inr r)
     else
      (chk (x2+1)).bind fun z1=>
      qK a0 k z1
 else
  some (Sum.inl ())
def sE (a0:AN):Nat->Int->Option ((Unit) ⊕ (Bool))
| 0,_=>none
| k+1,x4=>
 if x4<(a0.AS.length:Int)then
  (idx a0.AS x4).bind fun y5=>
  if y5.In<0 then
   (some false).bind fun r=>some (Sum.inr r)
  else
   (idx a0.AS x4).bind fun y6=>
   if x4<y6.In then
    (some false).bind fun r=>some (Sum.inr r)
   else
    (chk (x4+1)).bind fun z2=>
    sE a0 k z2
 else
  some (Sum.inl ())
def qF (y8:Ah) (x14:Int) (y9:Int):Nat->Int->Option ((Unit) ⊕ ((List Bool) ⊕ ((List Bool) ⊕ ((List Bool) ⊕ (Bool)))))
| 0,_=>none
| k+1,x17=>
 if x17<x14 then
  (idx y8.Ad x17).bind fun y11=>
  if y11=y9 then
   ((((some false).bind fun r=>some (Sum.inr r)).bind fun r=>some (Sum.inr r)).bind fun r=>some (Sum.inr r)).bind fun r=>some (Sum.inr r)
  else
   (chk (x17+1)).bind fun z3=>
   qF y8 x14 y9 k z3
 else
  some (Sum.inl ())
def nI (AA:Nat) (a0:AN) (y8:Ah):Nat->(List Bool)->Int->Option ((List Bool) ⊕ ((List Bool) ⊕ (Bool)))
| 0,_,_=>none
| k+1,x13,x14=>
 if x14<(y8.Ad.length:Int)then
  ((idx y8.Ad x14).bind fun y9=>
  if y9<0 then
   (((some false).bind fun r=>some (Sum.inr r)).bind fun r=>some (Sum.inr r)).bind fun r=>some (Sum.inr r)
  else
   if (a0.AT.length:Int)<=y9 then
    (((some false).bind fun r=>some (Sum.inr r)).bind fun r=>some (Sum.inr r)).bind fun r=>some (Sum.inr r)
   else
    (idx a0.AT y9).bind fun y10=>
    if y10.At≠y8.At then
     (((some false).bind fun r=>some (Sum.inr r)).bind fun r=>some (Sum.inr r)).bind fun r=>some (Sum.inr r)
    else
     (qF y8 x14 y9 AA 0).bind fun o=>match o with
     | Sum.inr r=>some r
     | Sum.inl _=>
     (idx x13 y9).bind fun y12=>
     some (Sum.inl (x13.set y9.toNat true))).bind fun o=>match o with
  | Sum.inr r=>some r
  | Sum.inl x15=>
  (chk (x14+1)).bind fun z4=>
  nI AA a0 y8 k x15 z4
 else
  some (Sum.inl x13)
def nY (AA:Nat) (a0:AN):Nat->(List Bool)->Int->Option ((List Bool) ⊕ (Bool))
| 0,_,_=>none
| k+1,x8,x9=>
 if x9<(a0.AQ.length:Int)then
  ((idx a0.AQ x9).bind fun y8=>
  if y8.At<0 then
   ((some false).bind fun r=>some (Sum.inr r)).bind fun r=>some (Sum.inr r)
  else
   if (a0.AS.length:Int)<y8.At then
    ((some false).bind fun r=>some (Sum.inr r)).bind fun r=>some (Sum.inr r)
   else
    if (y8.Ad.length:Int)<1 then
     ((some false).bind fun r=>some (Sum.inr r)).bind fun r=>some (Sum.inr r)
    else
     if 3<(y8.Ad.length:Int)then
      ((some false).bind fun r=>some (Sum.inr r)).bind fun r=>some (Sum.inr r)
     else
      nI AA a0 y8 AA x8 0).bind fun o=>match o with
  | Sum.inr r=>some r
  | Sum.inl x10=>
  (chk (x9+1)).bind fun z5=>
  nY AA a0 k x10 z5
 else
  some (Sum.inl x8)
def sI (x5:List Bool):Nat->Int->Option ((Unit) ⊕ (Bool))
| 0,_=>none
| k+1,x19=>
 if x19<(x5.length:Int)then
  (idx x5 x19).bind fun y13=>
  bif y13 then
   (chk (x19+1)).bind fun z6=>
   sI x5 k z6
  else
   (some false).bind fun r=>some (Sum.inr r)
 else
  some (Sum.inl ())
def zQ (AA:Nat) (a0:AN):Option (Bool):=
 if 30<(a0.AT.length:Int)then
  some false
 else
  if 30<(a0.AS.length:Int)then
   some false
  else
   if 30<(a0.AQ.length:Int)then
    some false
   else
    (qK a0 AA 0).bind fun o=>match o with
    | Sum.inr r=>some r
    | Sum.inl _=>
    (sE a0 AA 0).bind fun o=>match o with
    | Sum.inr r=>some r
    | Sum.inl _=>
    (mk false (a0.AT.length:Int)).bind fun y7=>
    (nY AA a0 AA y7 0).bind fun o=>match o with
    | Sum.inr r=>some r
    | Sum.inl x5=>
    (sI x5 AA 0).bind fun o=>match o with
    | Sum.inr r=>some r
    | Sum.inl _=>
    some true
theorem aIT (AA:Nat)  (a0:AN) (r:Bool) (H:zQ AA a0=some r):FnS Tryz.prog 83 [fSt aB a0] [] (aH r) (fun _=>[]):=by
 unfold zQ at H
 refine bB Tryz.func83 rfl Tryz.ntmps83 rfl (fun β=>?_)
 refine Z1 ?_
 refine Tn (bU rfl hh bM) fun b1=>?_
 refine Z2 ?_
 refine aG ?_
 refine I6 H (fun c1 H=>?_) fun c1 H=>?_
 refine Z12 ?_
 refine Z5 ?_
 cases H
 refine aE [] (by decide) ?_
 exact To
 refine I6 H (fun c2 H=>?_) fun c2 H=>?_
 refine Z11 ?_
 cases H
 refine aE [] (by decide) ?_
 exact To
 refine I6 H (fun c3 H=>?_) fun c3 H=>?_
 refine Z5 ?_
 cases H
 refine aE [] (by decide) ?_
 exact To
 revert H;refine B3z fun o1 H Hr1=>?_
 refine aO (ι:=Unit) (fun i=>o1=Sum.inl ()) (fun i=>[(1,fEq (ptr b1))]) (fun i=>[aA b1 77 [fSl aZ a0.AT,fSl aU a0.AS,fSl aY a0.AQ]]) ?_ ?_
 refine Z4 ?_
 refine Th (ι:=Int) (fun i=>qK a0 i.1 i.2=_) (fun i=>[(1,fEq (ptr b1)),(3,fI i.2)]) (fun i=>[aA b1 77 [fSl aZ a0.AT,fSl aU a0.AS,fSl aY a0.AQ]]) (AA,0) H (fun _ h=>nomatch h) ?_
 clear H;rintro k1 x2 H;dsimp only at H ⊢;rw [qK]at H
 refine aG ?_
 revert H;refine I7z (fun c4 H=>?_) fun c4 H=>?_
 refine Z3 ?_
 refine aG ?_
 refine Z1 ?_
 refine aG ?_
 revert H;refine bs fun y1 h1 H=>?_
 revert H;refine is (fun c5 H=>?_) fun c5 H=>?_
 apply bD (ods:=[_,_,_,_,_,_,_,_,_,_,_,_,_,_,_,_,_,_,_,_,_,_,_,_,_,_,_,_,_,_,_,_,_,_,_,_,_]) 37 0 1 bC rfl rfl rfl
 refine ND ?_
 refine M3 ?_
 intros
 refine My (cT rfl hh hh (el rfl) h1) fun _=>?_
 refine M8 ?_
 intros
 refine M8 ?_
 intros
 refine M8 ?_
 intros
 refine M8 ?_
 intros
 refine M1 ?_
 intros
 revert H;refine B12z fun r1 H e1=>?_
 cases e1;cases Hr1
 cases H
 refine aE [] (by decide) ?_
 exact To
 exact fk
 kernel_rfl
 revert H;refine bs fun y2 h2 H=>?_
 revert H;refine is (fun c6 H=>?_) fun c6 H=>?_
 apply bD (ods:=[_,_,_,_,_,_,_,_,_,_,_,_,_,_,_,_,_,_,_,_,_,_,_,_,_,_,_,_,_,_,_,_,_,_,_,_,_]) 37 0 1 bC rfl rfl rfl
 refine ND ?_
 refine M3 ?_
 intros
 refine My (cT rfl hh hh (el rfl) h1) fun _=>?_
 refine M7 ?_
 intros
 refine Mg c5 (cT rfl hh hh (el rfl) h2) fun _=>?_
 refine M8 ?_
 intros
 refine M8 ?_
 intros
 refine M8 ?_
 intros
 refine M1 ?_
 intros
 revert H;refine B12z fun r2 H e2=>?_
 cases e2;cases Hr1
 cases H
 refine aE [] (by decide) ?_
 exact To
 exact fk
 kernel_rfl
 revert H;refine bs fun y3 h3 H=>?_
 revert H;refine is (fun c7 H=>?_) fun c7 H=>?_
 apply bD (ods:=[_,_,_,_,_,_,_,_,_,_,_,_,_,_,_,_,_,_,_,_,_,_,_,_,_,_,_,_,_,_,_,_,_,_,_,_,_]) 37 0 1 bC rfl rfl rfl
 refine ND ?_
 refine M3 ?_
 intros
 refine My (cT rfl hh hh (el rfl) h1) fun _=>?_
 refine M7 ?_
 intros
 refine Mg c5 (cT rfl hh hh (el rfl) h2) fun _=>?_
 refine M8 ?_
 intros
 refine M3 ?_
 intros
 refine Mg c6 (cT rfl hh hh (el rfl) h3) fun _=>?_
 refine M8 ?_
 intros
 refine M5 ?_
 intros
 revert H;refine B12z fun r3 H e3=>?_
 cases e3;cases Hr1
 cases H
 refine aE [] (by decide) ?_
 exact To
 exact fk
 kernel_rfl
 revert H;refine bs fun y4 h4 H=>?_
 apply bD (ods:=[_,_,_,_,_,_,_,_,_,_,_,_,_,_,_,_,_,_,_,_,_,_,_,_,_,_,_,_,_,_,_,_,_,_,_,_,_]) 37 0 1 bC rfl rfl rfl
 refine ND ?_
 refine M3 ?_
 intros
 refine My (cT rfl hh hh (el rfl) h1) fun _=>?_
 refine M7 ?_
 intros
 refine Mg c5 (cT rfl hh hh (el rfl) h2) fun _=>?_
 refine M8 ?_
 intros
 refine M3 ?_
 intros
 refine Mg c6 (cT rfl hh hh (el rfl) h3) fun _=>?_
 refine M8 ?_
 intros
 refine M5 ?_
 intros
 revert H;refine I2z (fun c8 H=>?_) fun c8 H=>?_
 revert H;refine dS fun r4 H e4=>?_
 cases e4;cases Hr1
 cases H
 refine aE [] (by decide) ?_
 exact To
 revert H;refine B6z fun z1 h5 H=>?_
 refine Z3 ?_
 exact Tm ((k1,z1)) ⟨H,ls⟩
 exact fk
 kernel_rfl
 refine Z6 ?_
 exact Tm (()) (ij H)
 rintro i hi;subst o1;replace H:=Hr1;clear Hr1;try dsimp only at H ⊢
 revert H;refine bs fun o2 H Hr2=>?_
 refine aO (ι:=Unit) (fun i=>o2=Sum.inl ()) (fun i=>[(1,fEq (ptr b1))]) (fun i=>[aA b1 77 [fSl aZ a0.AT,fSl aU a0.AS,fSl aY a0.AQ]]) ?_ ?_
 refine Z4 ?_
 refine Th (ι:=Int) (fun i=>sE a0 i.1 i.2=_) (fun i=>[(1,fEq (ptr b1)),(4,fI i.2)]) (fun i=>[aA b1 77 [fSl aZ a0.AT,fSl aU a0.AS,fSl aY a0.AQ]]) (AA,0) H (fun _ h=>nomatch h) ?_
 clear H;rintro k2 x4 H;dsimp only at H ⊢;rw [sE]at H
 refine aG ?_
 revert H;refine I7z (fun c9 H=>?_) fun c9 H=>?_
 refine Z3 ?_
 refine aG ?_
 revert H;refine B5z fun y5 h6 H=>?_
 refine Yy (cT rfl hh hh (el rfl) h6) ?_
 revert H;refine I4z (fun c10 H=>?_) fun c10 H=>?_
 refine Z12 ?_
 revert H;refine B8z fun r5 H e5=>?_
 cases e5;cases Hr2
 cases H
 refine aE [] (by decide) ?_
 exact To
 revert H;refine B3z fun y6 h7 H=>?_
 revert H;refine I7z (fun c11 H=>?_) fun c11 H=>?_
 revert H;refine dS fun r6 H e6=>?_
 cases e6;cases Hr2
 cases H
 refine aE [] (by decide) ?_
 exact To
 revert H;refine B6z fun z2 h8 H=>?_
 refine Z3 ?_
 exact Tm ((k2,z2)) ⟨H,ls⟩
 refine Z6 ?_
 exact Tm (()) (ij H)
 rintro i hi;subst o2;replace H:=Hr2;clear Hr2;try dsimp only at H ⊢
 refine B4 H fun y7 h9 H=>?_
 refine Tn (kH (t:=aR) (z:=false) rfl hh (et rfl) rfl wF rfl h9) fun b2=>?_
 generalize (Value.slice (some ⟨b2,0,none⟩) _ _)=v1
 refine rc 0 fun _=>?_
 revert H;refine B2z fun o3 H Hr3=>?_
 refine aO (fun i=>o3=Sum.inl i) (fun i=>[(5,fEq v1)]) (fun i=>[aA b1 77 [fSl aZ a0.AT,fSl aU a0.AS,fSl aY a0.AQ],aC v1 4 aR i]) ?_ ?_
 refine Z4 ?_
 refine aE [1,0] (by decide) ?_
 refine Th (ι:=List Bool × Int) (fun i=>nY AA a0 i.1 i.2.1 i.2.2=_) (fun i=>[(1,fEq (ptr b1)),(5,fEq v1),(6,fI i.2.2)]) (fun i=>[aA b1 77 [fSl aZ a0.AT,fSl aU a0.AS,fSl aY a0.AQ],aC v1 4 aR i.2.1]) (AA,y7,0) H (fun _ h=>nomatch h) ?_
 clear H;rintro k3 ⟨x8,x9⟩ H;dsimp only at H ⊢;rw [nY]at H
 refine aG ?_
 revert H;refine I7z (fun c12 H=>?_) fun c12 H=>?_
 revert H;refine B3z fun o4 H Hr4=>?_
 refine aO (fun i=>o4=Sum.inl i) (fun i=>[(1,fEq (ptr b1)),(5,fEq v1),(6,fI x9)]) (fun i=>[aA b1 77 [fSl aZ a0.AT,fSl aU a0.AS,fSl aY a0.AQ],aC v1 4 aR i]) ?_ ?_
 revert H;refine B5z fun y8 h10 H=>?_
 refine Z2 ?_
 refine Tn (cB rfl pM rfl) fun b3=>?_
 refine cO (φs':=[fI y8.At,fSl tI y8.Ad,fI y8.AW]) a1F rfl rfl (has rfl) (has rfl) (aI (aF a1F) (aI (aS) (aI (aF a1F) bN))) (sz rfl) rfl rfl rfl ?_
 refine Z1 ?_
 refine aG ?_
 revert H;refine I5z (fun c13 H=>?_) fun c13 H=>?_
 refine Z12 ?_
 refine Z12 ?_
 revert H;refine B3z fun r7 H e7=>?_
 cases e7;cases Hr4
 revert H;refine B3z fun r8 H e8=>?_
 cases e8;cases Hr3
 cases H
 refine aE [] (by decide) ?_
 exact To
 revert H;refine I8z (fun c14 H=>?_) fun c14 H=>?_
 refine Z12 ?_
 revert H;refine B7z fun r9 H e9=>?_
 cases e9;cases Hr4
 revert H;refine B3z fun r10 H e10=>?_
 cases e10;cases Hr3
 cases H
 refine aE [] (by decide) ?_
 exact To
 revert H;refine I6z (fun c15 H=>?_) fun c15 H=>?_
 refine Z12 ?_
 revert H;refine B1z fun r11 H e11=>?_
 cases e11;cases Hr4
 revert H;refine B3z fun r12 H e12=>?_
 cases e12;cases Hr3
 cases H
 refine aE [] (by decide) ?_
 exact To
 revert H;refine I6z (fun c16 H=>?_) fun c16 H=>?_
 revert H;refine B7z fun r13 H e13=>?_
 cases e13;cases Hr4
 revert H;refine B3z fun r14 H e14=>?_
 cases e14;cases Hr3
 cases H
 refine aE [] (by decide) ?_
 exact To
 refine Z7 ?_
 refine Th (ι:=List Bool × Int) (fun i=>nI AA a0 y8 i.1 i.2.1 i.2.2=_) (fun i=>[(1,fEq (ptr b1)),(5,fEq v1),(6,fI x9),(7,fEq (ptr b3)),(8,fI i.2.2)]) (fun i=>[aA b3 81 [fI y8.At,fSl tI y8.Ad,fI y8.AW],aA b1 77 [fSl aZ a0.AT,fSl aU a0.AS,fSl aY a0.AQ],aC v1 4 aR i.2.1]) (AA,x8,0) H (fun _ h=>nomatch h) ?_
 clear H;rintro k4 ⟨x13,x14⟩ H;dsimp only at H ⊢;rw [nI]at H
 refine aG ?_
 revert H;refine I7z (fun c17 H=>?_) fun c17 H=>?_
 revert H;refine B3z fun o5 H Hr5=>?_
 refine aO (fun i=>o5=Sum.inl i) (fun i=>[(1,fEq (ptr b1)),(5,fEq v1),(6,fI x9),(7,fEq (ptr b3)),(8,fI x14)]) (fun i=>[aA b3 81 [fI y8.At,fSl tI y8.Ad,fI y8.AW],aA b1 77 [fSl aZ a0.AT,fSl aU a0.AS,fSl aY a0.AQ],aC v1 4 aR i]) ?_ ?_
 revert H;refine B5z fun y9 h11 H=>?_
 refine Z4 ?_
 refine aG ?_
 refine aG ?_
 revert H;refine is (fun c18 H=>?_) fun c18 H=>?_
 apply bD (ods:=[_,_,_,_,_,_,_,_,_,_,_,_,_,_,_,_,_,_,_,_]) 20 0 3 bC rfl rfl rfl
 refine ND ?_
 refine M8 ?_
 intros
 refine M8 ?_
 intros
 refine M4 ?_
 intros
 revert H;refine B9z fun r15 H e15=>?_
 cases e15;cases Hr5
 revert H;refine B4z fun r16 H e16=>?_
 cases e16;cases Hr4
 revert H;refine B3z fun r17 H e17=>?_
 cases e17;cases Hr3
 cases H
 refine aE [] (by decide) ?_
 exact To
 exact fk
 kernel_rfl
 revert H;refine is (fun c19 H=>?_) fun c19 H=>?_
 apply bD (ods:=[_,_,_,_,_,_,_,_,_,_,_,_,_,_,_,_,_,_,_,_]) 20 0 3 bC rfl rfl rfl
 refine ND ?_
 refine M8 ?_
 intros
 refine M8 ?_
 intros
 refine M4 ?_
 intros
 revert H;refine B9z fun r18 H e18=>?_
 cases e18;cases Hr5
 revert H;refine B4z fun r19 H e19=>?_
 cases e19;cases Hr4
 revert H;refine B3z fun r20 H e20=>?_
 cases e20;cases Hr3
 cases H
 refine aE [] (by decide) ?_
 exact To
 exact fk
 kernel_rfl
 revert H;refine bs fun y10 h12 H=>?_
 apply bD (ods:=[_,_,_,_,_,_,_,_,_,_,_,_,_,_,_,_,_,_,_,_]) 20 0 3 bC rfl rfl rfl
 refine ND ?_
 refine M8 ?_
 intros
 refine M8 ?_
 intros
 refine M4 ?_
 intros
 revert H;refine I2z (fun c20 H=>?_) fun c20 H=>?_
 revert H;refine B7z fun r21 H e21=>?_
 cases e21;cases Hr5
 revert H;refine B4z fun r22 H e22=>?_
 cases e22;cases Hr4
 revert H;refine B3z fun r23 H e23=>?_
 cases e23;cases Hr3
 cases H
 refine aE [] (by decide) ?_
 exact To
 revert H;refine B3z fun o6 H Hr6=>?_
 refine aO (ι:=Unit) (fun i=>o6=Sum.inl ()) (fun i=>[(1,fEq (ptr b1)),(5,fEq v1),(6,fI x9),(7,fEq (ptr b3)),(8,fI x14),(9,fI y9)]) (fun i=>[aA b3 81 [fI y8.At,fSl tI y8.Ad,fI y8.AW],aA b1 77 [fSl aZ a0.AT,fSl aU a0.AS,fSl aY a0.AQ],aC v1 4 aR x13]) ?_ ?_
 refine Z4 ?_
 refine Th (ι:=Int) (fun i=>qF y8 x14 y9 i.1 i.2=_) (fun i=>[(1,fEq (ptr b1)),(5,fEq v1),(6,fI x9),(7,fEq (ptr b3)),(8,fI x14),(9,fI y9),(10,fI i.2)]) (fun i=>[aA b3 81 [fI y8.At,fSl tI y8.Ad,fI y8.AW],aA b1 77 [fSl aZ a0.AT,fSl aU a0.AS,fSl aY a0.AQ],aC v1 4 aR x13]) (AA,0) H (fun _ h=>nomatch h) ?_
 clear H;rintro k5 x17 H;dsimp only at H ⊢;rw [qF]at H
 refine aG ?_
 revert H;refine I5z (fun c21 H=>?_) fun c21 H=>?_
 refine Z3 ?_
 refine aG ?_
 revert H;refine B5z fun y11 h13 H=>?_
 revert H;refine I5z (fun c22 H=>?_) fun c22 H=>?_
 revert H;refine dS fun r24 H e24=>?_
 cases e24;cases Hr6
 revert H;refine B2z fun r25 H e25=>?_
 cases e25;cases Hr5
 revert H;refine B4z fun r26 H e26=>?_
 cases e26;cases Hr4
 revert H;refine B3z fun r27 H e27=>?_
 cases e27;cases Hr3
 cases H
 refine aE [] (by decide) ?_
 exact To
 revert H;refine B6z fun z3 h14 H=>?_
 refine Z3 ?_
 exact Tm ((k5,z3)) ⟨H,ls⟩
 refine Z6 ?_
 exact Tm (()) (ij H)
 rintro i hi;subst o6;replace H:=Hr6;clear Hr6;try dsimp only at H ⊢
 revert H;refine B3z fun y12 h15 H=>?_
 refine Z1 ?_
 refine dK ?_
 refine wO (z':=true) a1F rfl rfl rfl (has rfl) (has rfl) (aF a1F) (sz rfl) (dN h15) rfl rfl ?_
 refine Z3 ?_
 refine aE [1,2,0] (by decide) ?_
 exact Tm (x13.set y9.toNat true) (ij H)
 exact fk
 kernel_rfl
 rintro x15 hi;subst o5;replace H:=Hr5;clear Hr5;try dsimp only at H ⊢
 revert H;refine B2z fun z4 h16 H=>?_
 refine Z3 ?_
 exact Tm ((k4,x15,z4)) ⟨H,ls⟩
 refine Z7 ?_
 refine aE [1,2] (by decide) ?_
 exact Tm (x13) (ij H)
 rintro x10 hi;subst o4;replace H:=Hr4;clear Hr4;try dsimp only at H ⊢
 revert H;refine B2z fun z5 h17 H=>?_
 refine Z3 ?_
 exact Tm ((k3,x10,z5)) ⟨H,ls⟩
 refine Z6 ?_
 exact Tm (x8) (ij H)
 rintro x5 hi;subst o3;replace H:=Hr3;clear Hr3;try dsimp only at H ⊢
 revert H;refine bs fun o7 H Hr7=>?_
 refine aO (ι:=Unit) (fun i=>o7=Sum.inl ()) (fun i=>[]) (fun i=>[aA b1 77 [fSl aZ a0.AT,fSl aU a0.AS,fSl aY a0.AQ]]) ?_ ?_
 refine Z4 ?_
 refine Th (ι:=Int) (fun i=>sI x5 i.1 i.2=_) (fun i=>[(5,fEq v1),(11,fI i.2)]) (fun i=>[aA b1 77 [fSl aZ a0.AT,fSl aU a0.AS,fSl aY a0.AQ],aC v1 4 aR x5]) (AA,0) H (fun _ h=>nomatch h) ?_
 clear H;rintro k6 x19 H;dsimp only at H ⊢;rw [sI]at H
 refine aG ?_
 revert H;refine I6z (fun c23 H=>?_) fun c23 H=>?_
 refine Z3 ?_
 refine aG ?_
 revert H;refine B4z fun y13 h18 H=>?_
 refine Z1 ?_
 refine Yo 1 rfl (iA rfl rfl hh (sc rfl) (dN h18) rfl) ?_
 refine Z2 ?_
 revert H;refine cs (fun c24 H=>?_) fun c24 H=>?_
 revert H;refine B6z fun z6 h19 H=>?_
 refine Z3 ?_
 exact Tm ((k6,z6)) ⟨H,ls⟩
 revert H;refine dS fun r28 H e28=>?_
 cases e28;cases Hr7
 cases H
 refine aE [] (by decide) ?_
 exact To
 refine Z6 ?_
 refine aE [0] (by decide) ?_
 exact Tm (()) (ij H)
 rintro i hi;subst o7;replace H:=Hr7;clear Hr7;try dsimp only at H ⊢
 refine Z4 ?_
 cases H
 refine aE [] (by decide) ?_
 exact To
open Go.SX Go.SW Go.Dt
def tA (rec_r03_expNodes:AV->Int->Option (Int)) (a0:AV) (a1:Int):Nat->Int->Int->Option (Int)
| 0,_,_=>none
| k+1,x4,x5=>
 if x5<(a0.AM.length:Int)then
  if x4<=a1 then
   (idx a0.AM x5).bind fun y1=>
   (chk (a1 - x4)).bind fun z1=>
   (rec_r03_expNodes y1 z1).bind fun y2=>
   (chk (x4+y2)).bind fun z2=>
   (chk (x5+1)).bind fun z3=>
   tA rec_r03_expNodes a0 a1 k z2 z3
  else
   some x4
 else
  some x4
def mG:Nat->AV->Int->Option (Int)
| 0,_,_=>none
| AA+1,a0,a1=>
 (tA (mG AA) a0 a1 AA 1 0).bind fun x1=>
 some x1
theorem aH6:∀ (AA:Nat),(∀  (a0:AV) (a1:Int) (r:Int) (H:mG AA a0 a1=some r),FnS Tryz.prog 150 [fSt aN a0,fI a1] [] (fI r) (fun _=>[])):=by
 intro AA
 induction AA with
 | zero=>exact fun a0 a1 r H=>(by rw [mG]at H;cases H)
 | succ AA ih=>
 have ih_r03_expNodes:=@ih
 refine ?_
 intro a0 a1 r H
 rw [mG]at H
 refine bB Tryz.func150 rfl Tryz.ntmps150 rfl (fun β=>?_)
 refine Z1 ?_
 refine Tn (bU rfl hh bM) fun b1=>?_
 revert H;refine B5z fun o1 H Hr1=>?_
 refine aO (fun i=>o1=i) (fun i=>[(5,fI i)]) (fun i=>[aA b1 71 [fI a0.Op,fI a0.N,dD a0.AM]]) ?_ ?_
 refine Z4 ?_
 refine Th (ι:=Int × Int) (fun i=>tA (mG AA) a0 a1 i.1 i.2.1 i.2.2=_) (fun i=>[(1,fI a1),(2,fEq (ptr b1)),(5,fI i.2.1),(6,fI i.2.2)]) (fun i=>[aA b1 71 [fI a0.Op,fI a0.N,dD a0.AM]]) (AA,1,0) H (fun _ h=>nomatch h) ?_
 clear H;rintro k1 ⟨x4,x5⟩ H;dsimp only at H ⊢;rw [tA]at H
 refine aG ?_
 refine Z3 ?_
 refine Yo 0 rfl (eU rfl hh (sc rfl) rfl (fB eO)) ?_
 revert H;refine I3z (fun c1 H=>?_) fun c1 H=>?_
 revert H;refine I5z (fun c2 H=>?_) fun c2 H=>?_
 refine Z3 ?_
 refine aG ?_
 refine Z4 ?_
 refine Yo 0 rfl (eU rfl hh (sc rfl) rfl (fB eO)) ?_
 revert H;refine B1z fun y1 h1 H=>?_
 revert H;refine B4z fun z1 h2 H=>?_
 revert H;refine B1z fun y2 h3 H=>?_
 refine Tc (ih_r03_expNodes _ _ _ h3) ?_
 revert H;refine bs fun z2 h4 H=>?_
 revert H;refine B7z fun z3 h5 H=>?_
 refine Z3 ?_
 exact Tm ((k1,z2,z3)) ⟨H,ls⟩
 refine Z6 ?_
 exact Tm (x4) (ij H)
 refine Z11 ?_
 exact Tm (x4) (ij H)
 rintro x1 hi;subst o1;replace H:=Hr1;clear Hr1;try dsimp only at H ⊢
 refine Z5 ?_
 cases H
 refine aE [] (by decide) ?_
 exact To
def qE (rec_r03_expDepth:AV->Option (Int)) (a0:AV):Nat->Int->Int->Option (Int)
| 0,_,_=>none
| k+1,x4,x5=>
 if x5<(a0.AM.length:Int)then
  (idx a0.AM x5).bind fun y1=>
  (rec_r03_expDepth y1).bind fun y2=>
  (chk (x5+1)).bind fun z1=>
  qE rec_r03_expDepth a0 k (max x4 y2) z1
 else
  some x4
def mI:Nat->AV->Option (Int)
| 0,_=>none
| AA+1,a0=>
 (qE (mI AA) a0 AA 0 0).bind fun x1=>
 (chk (x1+1)).bind fun z2=>
 some z2
theorem aLD:∀ (AA:Nat),(∀  (a0:AV) (r:Int) (H:mI AA a0=some r),FnS Tryz.prog 151 [fSt aN a0] [] (fI r) (fun _=>[])):=by
 intro AA
 induction AA with
 | zero=>exact fun a0 r H=>(by rw [mI]at H;cases H)
 | succ AA ih=>
 have ih_r03_expDepth:=@ih
 refine ?_
 intro a0 r H
 rw [mI]at H
 refine bB Tryz.func151 rfl Tryz.ntmps151 rfl (fun β=>?_)
 refine Z1 ?_
 refine Tn (bU rfl hh bM) fun b1=>?_
 revert H;refine B5z fun o1 H Hr1=>?_
 refine aO (fun i=>o1=i) (fun i=>[(3,fI i)]) (fun i=>[aA b1 71 [fI a0.Op,fI a0.N,dD a0.AM]]) ?_ ?_
 refine Z4 ?_
 refine Th (ι:=Int × Int) (fun i=>qE (mI AA) a0 i.1 i.2.1 i.2.2=_) (fun i=>[(1,fEq (ptr b1)),(3,fI i.2.1),(4,fI i.2.2)]) (fun i=>[aA b1 71 [fI a0.Op,fI a0.N,dD a0.AM]]) (AA,0,0) H (fun _ h=>nomatch h) ?_
 clear H;rintro k1 ⟨x4,x5⟩ H;dsimp only at H ⊢;rw [qE]at H
 refine aG ?_
 refine Z3 ?_
 refine Yo 0 rfl (eU rfl hh (sc rfl) rfl (fB eO)) ?_
 revert H;refine I3z (fun c1 H=>?_) fun c1 H=>?_
 refine Z3 ?_
 refine aG ?_
 refine Z4 ?_
 refine Yo 0 rfl (eU rfl hh (sc rfl) rfl (fB eO)) ?_
 revert H;refine B1z fun y1 h1 H=>?_
 revert H;refine B2z fun y2 h2 H=>?_
 refine Tc (ih_r03_expDepth _ _ h2) ?_
 refine Yy (o_max rfl hh hh) ?_
 revert H;refine B6z fun z1 h3 H=>?_
 refine Z3 ?_
 exact Tm ((k1,max x4 y2,z1)) ⟨H,ls⟩
 refine Z6 ?_
 exact Tm (x4) (ij H)
 rintro x1 hi;subst o1;replace H:=Hr1;clear Hr1;try dsimp only at H ⊢
 refine B2 H fun z2 h4 H=>?_
 refine Z4 ?_
 cases H
 refine aE [] (by decide) ?_
 exact To
def pS:Nat->AV->Int->Option (Bool)
| 0,_,_=>none
| AA+1,a0,a1=>
 if a0.Op=1 then
  (if (a0.AM.length:Int)=0 then
   if (-1000000000)<=a0.N then
    some (decide (a0.N<=1000000000))
   else
    some false
  else
   some false).bind fun x1=>
  some x1
 else
  if a0.Op=2 then
   (if (a0.AM.length:Int)=0 then
    if 0<=a0.N then
     some (decide (a0.N<a1))
    else
     some false
   else
    some false).bind fun x2=>
   some x2
  else
   if a0.Op<3 then
    some false
   else
    if 7<a0.Op then
     some false
    else
     if (a0.AM.length:Int)≠2 then
      some false
     else
      if a0.N≠0 then
       some false
      else
       ((idx a0.AM 0).bind fun y1=>
       ((pS AA) y1 a1).bind fun y2=>
       bif y2 then
        (idx a0.AM 1).bind fun y3=>
        ((pS AA) y3 a1).bind fun y4=>
        some y4
       else
        some false).bind fun x3=>
       some x3
theorem aKN:∀ (AA:Nat),(∀  (a0:AV) (a1:Int) (r:Bool) (H:pS AA a0 a1=some r),FnS Tryz.prog 152 [fSt aN a0,fI a1] [] (aH r) (fun _=>[])):=by
 intro AA
 induction AA with
 | zero=>exact fun a0 a1 r H=>(by rw [pS]at H;cases H)
 | succ AA ih=>
 have ih_r03_expFormed:=@ih
 refine ?_
 intro a0 a1 r H
 rw [pS]at H
 refine bB Tryz.func152 rfl Tryz.ntmps152 rfl (fun β=>?_)
 refine Z1 ?_
 refine Tn (bU rfl hh bM) fun b1=>?_
 refine Z2 ?_
 refine aG ?_
 refine I7 H (fun c1 H=>?_) fun c1 H=>?_
 revert H;refine B1z fun o1 H Hr1=>?_
 refine aO (fun i=>o1=i) (fun i=>[(4,aH i)]) (fun i=>[aA b1 71 [fI a0.Op,fI a0.N,dD a0.AM]]) ?_ ?_
 refine Z2 ?_
 refine Yo 0 rfl (eU rfl hh (sc rfl) rfl (fB eO)) ?_
 revert H;refine I3z (fun c2 H=>?_) fun c2 H=>?_
 revert H;refine I5z (fun c3 H=>?_) fun c3 H=>?_
 refine Z6 ?_
 exact Tm (decide (a0.N<=1000000000)) (ij H)
 refine Z6 ?_
 exact Tm (false) (ij H)
 refine Z11 ?_
 exact Tm (false) (ij H)
 rintro x1 hi;subst o1;replace H:=Hr1;clear Hr1;try dsimp only at H ⊢
 refine Z3 ?_
 cases H
 refine aE [] (by decide) ?_
 exact To
 refine I7 H (fun c4 H=>?_) fun c4 H=>?_
 revert H;refine B1z fun o2 H Hr2=>?_
 refine aO (fun i=>o2=i) (fun i=>[(4,aH i)]) (fun i=>[aA b1 71 [fI a0.Op,fI a0.N,dD a0.AM]]) ?_ ?_
 refine Z2 ?_
 refine Yo 0 rfl (eU rfl hh (sc rfl) rfl (fB eO)) ?_
 revert H;refine I3z (fun c5 H=>?_) fun c5 H=>?_
 revert H;refine I5z (fun c6 H=>?_) fun c6 H=>?_
 refine Z7 ?_
 exact Tm (decide (a0.N<a1)) (ij H)
 refine Z7 ?_
 exact Tm (false) (ij H)
 refine Z12 ?_
 exact Tm (false) (ij H)
 rintro x2 hi;subst o2;replace H:=Hr2;clear Hr2;try dsimp only at H ⊢
 refine Z3 ?_
 cases H
 refine aE [] (by decide) ?_
 exact To
 refine I6 H (fun c7 H=>?_) fun c7 H=>?_
 refine Z12 ?_
 refine Z12 ?_
 cases H
 refine aE [] (by decide) ?_
 exact To
 refine I5 H (fun c8 H=>?_) fun c8 H=>?_
 refine Z12 ?_
 refine Z7 ?_
 cases H
 refine aE [] (by decide) ?_
 exact To
 refine Z1 ?_
 refine Yh 0 rfl c8 (eU rfl hh (sc rfl) rfl (fB eO)) ?_
 refine I4 H (fun c9 H=>?_) fun c9 H=>?_
 refine Z12 ?_
 refine Z1 ?_
 cases H
 refine aE [] (by decide) ?_
 exact To
 refine I6 H (fun c10 H=>?_) fun c10 H=>?_
 refine Z7 ?_
 cases H
 refine aE [] (by decide) ?_
 exact To
 revert H;refine B4z fun o3 H Hr3=>?_
 refine aO (fun i=>o3=i) (fun i=>[(4,aH i)]) (fun i=>[aA b1 71 [fI a0.Op,fI a0.N,dD a0.AM]]) ?_ ?_
 refine Z2 ?_
 refine Yo 0 rfl (eU rfl hh (sc rfl) rfl (fB eO)) ?_
 revert H;refine bs fun y1 h1 H=>?_
 revert H;refine B3z fun y2 h2 H=>?_
 refine Tc (ih_r03_expFormed _ _ _ h2) ?_
 refine Z1 ?_
 revert H;refine cs (fun c11 H=>?_) fun c11 H=>?_
 refine Z1 ?_
 refine Yh 0 rfl c11 (eU rfl hh (sc rfl) rfl (fB eO)) ?_
 revert H;refine bs fun y3 h3 H=>?_
 revert H;refine B3z fun y4 h4 H=>?_
 refine Tc (ih_r03_expFormed _ _ _ h4) ?_
 refine Z3 ?_
 exact Tm (y4) (ij H)
 refine Z9 ?_
 exact Tm (false) (ij H)
 rintro x3 hi;subst o3;replace H:=Hr3;clear Hr3;try dsimp only at H ⊢
 refine Z1 ?_
 cases H
 refine aE [] (by decide) ?_
 exact To
def vA (AA:Nat) (a0:AV) (a1:Int):Option (Bool):=
 ((mG AA (⟨a0.Op,a0.N,a0.AM⟩:AV) 60).bind fun y1=>
 if y1<=60 then
  (mI AA (⟨a0.Op,a0.N,a0.AM⟩:AV)).bind fun y2=>
  if y2<=12 then
   (pS AA (⟨a0.Op,a0.N,a0.AM⟩:AV) a1).bind fun y3=>
   some y3
  else
   some false
 else
  some false).bind fun x1=>
 some x1
theorem aFq (AA:Nat)  (a0:AV) (a1:Int) (r:Bool) (H:vA AA a0 a1=some r):FnS Tryz.prog 113 [fSt aN a0,fI a1] [] (aH r) (fun _=>[]):=by
 unfold vA at H
 refine bB Tryz.func113 rfl Tryz.ntmps113 rfl (fun β=>?_)
 refine Z1 ?_
 refine Tn (bU rfl hh bM) fun b1=>?_
 revert H;refine B2z fun o1 H Hr1=>?_
 refine aO (fun i=>o1=i) (fun i=>[(4,aH i)]) (fun i=>[aA b1 71 [fI a0.Op,fI a0.N,dD a0.AM]]) ?_ ?_
 revert H;refine B2z fun y1 h1 H=>?_
 refine Tc (aH6 _ _ _ _ h1) ?_
 revert H;refine I2z (fun c1 H=>?_) fun c1 H=>?_
 revert H;refine B1z fun y2 h2 H=>?_
 refine Tc (aLD _ _ _ h2) ?_
 revert H;refine I3z (fun c2 H=>?_) fun c2 H=>?_
 revert H;refine B2z fun y3 h3 H=>?_
 refine Tc (aKN _ _ _ _ h3) ?_
 refine Z3 ?_
 exact Tm (y3) (ij H)
 refine Z6 ?_
 exact Tm (false) (ij H)
 refine Z11 ?_
 exact Tm (false) (ij H)
 rintro x1 hi;subst o1;replace H:=Hr1;clear Hr1;try dsimp only at H ⊢
 refine Z1 ?_
 cases H
 refine aE [] (by decide) ?_
 exact To
def vT (a0:Int):Option (Int × Int × Bool):=
 (if a0=1 then
  some (decide (a0=1))
 else
  some (decide (a0=7))).bind fun x1=>
 bif x1 then
  some (0,0,true)
 else
  if a0=2 then
   some ((-1),0,true)
  else
   if a0=3 then
    some (0,2,true)
   else
    if a0=5 then
     some (1,2,true)
    else
     (if a0=4 then
      some (decide (a0=4))
     else
      if a0=6 then
       some (decide (a0=6))
      else
       some (decide (a0=8))).bind fun x2=>
     bif x2 then
      some (0,1,true)
     else
      some (0,0,false)
theorem aKk  (a0:Int) (r:Int × Int × Bool) (H:vT a0=some r):FnS Tryz.prog 117 [fI a0] [] (dB [fI r.1,fI r.2.1,aH r.2.2]) (fun _=>[]):=by
 unfold vT at H
 refine bB Tryz.func117 rfl Tryz.ntmps117 rfl (fun β=>?_)
 refine Z5 ?_
 refine aG ?_
 revert H;refine B4z fun o1 H Hr1=>?_
 refine aO (fun i=>o1=i) (fun i=>[(5,fI a0),(6,aH i)]) (fun i=>[]) ?_ ?_
 revert H;refine I4z (fun c1 H=>?_) fun c1 H=>?_
 refine Z3 ?_
 exact Tm (decide (a0=1)) (ij H)
 refine Z5 ?_
 exact Tm (decide (a0=7)) (ij H)
 rintro x1 hi;subst o1;replace H:=Hr1;clear Hr1;try dsimp only at H ⊢
 refine cz H (fun c2 H=>?_) fun c2 H=>?_
 refine Z9 ?_
 cases H
 exact wJ rfl (bO rfl) (bO rfl) (bO rfl) rfl
 refine I5 H (fun c3 H=>?_) fun c3 H=>?_
 refine Z9 ?_
 cases H
 exact wJ rfl (bO rfl) (bO rfl) (bO rfl) rfl
 refine I5 H (fun c4 H=>?_) fun c4 H=>?_
 refine Z9 ?_
 cases H
 exact wJ rfl (bO rfl) (bO rfl) (bO rfl) rfl
 refine I5 H (fun c5 H=>?_) fun c5 H=>?_
 refine Z9 ?_
 cases H
 exact wJ rfl (bO rfl) (bO rfl) (bO rfl) rfl
 revert H;refine B1z fun o2 H Hr2=>?_
 refine aO (fun i=>o2=i) (fun i=>[(15,aH i)]) (fun i=>[]) ?_ ?_
 revert H;refine I4z (fun c6 H=>?_) fun c6 H=>?_
 refine Z3 ?_
 exact Tm (decide (a0=4)) (ij H)
 revert H;refine I5z (fun c7 H=>?_) fun c7 H=>?_
 refine Z3 ?_
 exact Tm (decide (a0=6)) (ij H)
 refine Z5 ?_
 exact Tm (decide (a0=8)) (ij H)
 rintro x2 hi;subst o2;replace H:=Hr2;clear Hr2;try dsimp only at H ⊢
 refine cz H (fun c8 H=>?_) fun c8 H=>?_
 refine Z9 ?_
 cases H
 exact wJ rfl (bO rfl) (bO rfl) (bO rfl) rfl
 refine Z10 ?_
 cases H
 exact wJ rfl (bO rfl) (bO rfl) (bO rfl) rfl
def vY (a0:AN):Option (Int):=
 (chk ((a0.AT.length:Int)+(a0.AS.length:Int))).bind fun z1=>
 some z1
theorem aIx  (a0:AN) (r:Int) (H:vY a0=some r):FnS Tryz.prog 118 [fSt aB a0] [] (fI r) (fun _=>[]):=by
 unfold vY at H
 refine bB Tryz.func118 rfl Tryz.ntmps118 rfl (fun β=>?_)
 refine Z1 ?_
 refine Tn (bU rfl hh bM) fun b1=>?_
 refine B9 H fun z1 h1 H=>?_
 refine Z4 ?_
 cases H
 refine aE [] (by decide) ?_
 exact To
def tF (a0:AN) (a1:Ah):Nat->Int->Int->Option (Int)
| 0,_,_=>none
| k+1,x4,x5=>
 if x5<(a1.Ad.length:Int)then
  (idx a1.Ad x5).bind fun y1=>
  (idx a0.AT y1).bind fun y2=>
  (chk (x4+y2.Ar)).bind fun z1=>
  (chk (x5+1)).bind fun z2=>
  tF a0 a1 k z1 z2
 else
  some x4
def yG (AA:Nat) (a0:AN) (a1:Ah):Option (Int):=
 (tF a0 a1 AA 0 0).bind fun x1=>
 some x1
theorem aJz (AA:Nat)  (a0:AN) (a1:Ah) (r:Int) (H:yG AA a0 a1=some r):FnS Tryz.prog 153 [fSt aB a0,fSt aY a1] [] (fI r) (fun _=>[]):=by
 unfold yG at H
 refine bB Tryz.func153 rfl Tryz.ntmps153 rfl (fun β=>?_)
 refine Z1 ?_
 refine Tn (bU rfl hh bM) fun b1=>?_
 refine Tn (bU rfl hh bM) fun b2=>?_
 revert H;refine B5z fun o1 H Hr1=>?_
 refine aO (fun i=>o1=i) (fun i=>[(5,fI i)]) (fun i=>[aA b2 81 [fI a1.At,fSl tI a1.Ad,fI a1.AW],aA b1 77 [fSl aZ a0.AT,fSl aU a0.AS,fSl aY a0.AQ]]) ?_ ?_
 refine Z4 ?_
 refine Th (ι:=Int × Int) (fun i=>tF a0 a1 i.1 i.2.1 i.2.2=_) (fun i=>[(2,fEq (ptr b1)),(3,fEq (ptr b2)),(5,fI i.2.1),(6,fI i.2.2)]) (fun i=>[aA b2 81 [fI a1.At,fSl tI a1.Ad,fI a1.AW],aA b1 77 [fSl aZ a0.AT,fSl aU a0.AS,fSl aY a0.AQ]]) (AA,0,0) H (fun _ h=>nomatch h) ?_
 clear H;rintro k1 ⟨x4,x5⟩ H;dsimp only at H ⊢;rw [tF]at H
 refine aG ?_
 revert H;refine I7z (fun c1 H=>?_) fun c1 H=>?_
 refine Z3 ?_
 refine aG ?_
 revert H;refine B1z fun y1 h1 H=>?_
 revert H;refine bs fun y2 h2 H=>?_
 revert H;refine bs fun z1 h3 H=>?_
 apply bD (ods:=[_,_,_,_,_,_,_,_,_,_,_,_,_]) 13 0 2 bC rfl rfl rfl
 refine ND ?_
 refine M8 ?_
 intros
 refine M5 ?_
 intros
 revert H;refine B6z fun z2 h4 H=>?_
 refine Z3 ?_
 exact Tm ((k1,z1,z2)) ⟨H,ls⟩
 exact fk
 kernel_rfl
 refine Z6 ?_
 exact Tm (x4) (ij H)
 rintro x1 hi;subst o1;replace H:=Hr1;clear Hr1;try dsimp only at H ⊢
 refine Z5 ?_
 cases H
 refine aE [] (by decide) ?_
 exact To
open Go.SX Go.SW Go.Dt
def kJ (AA:Nat) (a2:Int) (y5:AZ):Nat->Int->Bool->Option (Bool)
| 0,_,_=>none
| k+1,x4,x5=>
 if x4<(y5.AX.length:Int)then
  (bif x5 then
   some true
  else
   (idx y5.AX x4).bind fun y7=>
   (vA AA y7 a2).bind fun y8=>
   some (!y8)).bind fun x6=>
  (chk (x4+1)).bind fun z2=>
  kJ AA a2 y5 k z2 x6
 else
  some x5
def kG (rec_r03_look_node:Aj->Int->Int->Option (Aj)) (y5:AZ) (x7:Int):Nat->Int->(List ByteArray)->(List AZ)->(List AN)->Int->(List Int)->(List Int)->(List Int)->Bool->Option (Aj)
| 0,_,_,_,_,_,_,_,_,_=>none
| k+1,x26,x27,x28,x29,x30,x31,x32,x33,x34=>
 if x26<(y5.AM.length:Int)then
  bif x34 then
   some (⟨(⟨x27,x28,x29,x30⟩:AJ),x31,x32,x33,x34⟩:Aj)
  else
   (idx y5.AM x26).bind fun y16=>
   (rec_r03_look_node (⟨(⟨x27,x28,x29,x30⟩:AJ),x31,x32,x33,x34⟩:Aj) y16 x7).bind fun y17=>
   (chk (x26+1)).bind fun z5=>
   kG rec_r03_look_node y5 x7 k z5 y17.p.AF y17.p.AB y17.p.AD y17.p.AG y17.Aa y17.Am y17.Al y17.bad
 else
  some (⟨(⟨x27,x28,x29,x30⟩:AJ),x31,x32,x33,x34⟩:Aj)
def mF (AA:Nat) (rec_r03_look_node:Aj->Int->Int->Option (Aj)) (a1:AN) (a2:Int):Nat->Int->(List ByteArray)->(List AZ)->(List AN)->Int->(List Int)->(List Int)->(List Int)->Bool->Option (List ByteArray × List AZ × List AN × Int × List Int × List Int × List Int × Bool)
| 0,_,_,_,_,_,_,_,_,_=>none
| k+1,x18,x19,x20,x21,x22,x23,x24,x25,x26=>
 if x18<(a1.AQ.length:Int)then
  bif x26 then
   some (x19,x20,x21,x22,x23,x24,x25,x26)
  else
   (idx a1.AQ x18).bind fun y1=>
   (idx a1.AQ x18).bind fun y2=>
   (yG AA (⟨a1.AT,a1.AS,a1.AQ⟩:AN) y2).bind fun y3=>
   (chk (a2+y3)).bind fun z1=>
   (rec_r03_look_node (⟨(⟨x19,x20,x21,x22⟩:AJ),x23,x24,x25,x26⟩:Aj) y1.AW z1).bind fun y4=>
   (chk (x18+1)).bind fun z2=>
   mF AA rec_r03_look_node a1 a2 k z2 y4.p.AF y4.p.AB y4.p.AD y4.p.AG y4.Aa y4.Am y4.Al y4.bad
 else
  some (x19,x20,x21,x22,x23,x24,x25,x26)
def mC (rec_r03_look_node:Aj->Int->Int->Option (Aj)) (a1:AN) (a2:Int):Nat->Int->(List ByteArray)->(List AZ)->(List AN)->Int->(List Int)->(List Int)->(List Int)->Bool->Option (Aj)
| 0,_,_,_,_,_,_,_,_,_=>none
| k+1,x36,x37,x38,x39,x40,x41,x42,x43,x44=>
 if x36<(a1.AS.length:Int)then
  bif x44 then
   some (⟨(⟨x37,x38,x39,x40⟩:AJ),x41,x42,x43,x44⟩:Aj)
  else
   (idx a1.AS x36).bind fun y5=>
   (rec_r03_look_node (⟨(⟨x37,x38,x39,x40⟩:AJ),x41,x42,x43,x44⟩:Aj) y5.AW a2).bind fun y6=>
   (chk (x36+1)).bind fun z3=>
   mC rec_r03_look_node a1 a2 k z3 y6.p.AF y6.p.AB y6.p.AD y6.p.AG y6.Aa y6.Am y6.Al y6.bad
 else
  some (⟨(⟨x37,x38,x39,x40⟩:AJ),x41,x42,x43,x44⟩:Aj)
mutual
def fG:Nat->Aj->Int->Int->Option (Aj)
| 0,_,_,_=>none
| AA+1,a0,a1,a2=>
 if a1<0 then
  some (⟨(⟨a0.p.AF,a0.p.AB,a0.p.AD,a0.p.AG⟩:AJ),a0.Aa,a0.Am,a0.Al,true⟩:Aj)
 else
  if (a0.p.AB.length:Int)<=a1 then
   some (⟨(⟨a0.p.AF,a0.p.AB,a0.p.AD,a0.p.AG⟩:AJ),a0.Aa,a0.Am,a0.Al,true⟩:Aj)
  else
   (idx a0.Am a1).bind fun y1=>
   if 0<y1 then
    some (⟨(⟨a0.p.AF,a0.p.AB,a0.p.AD,a0.p.AG⟩:AJ),a0.Aa,a0.Am,a0.Al,true⟩:Aj)
   else
    (idx a0.Am a1).bind fun y2=>
    (chk (y2+1)).bind fun z1=>
    (idx a0.Am a1).bind fun y3=>
    (idx a0.Aa a1).bind fun y4=>
    (idx a0.p.AB a1).bind fun y5=>
    (vT y5.Op).bind fun y6=>
    (bif !y6.2.2 then
     (some (⟨(⟨a0.p.AF,a0.p.AB,a0.p.AD,a0.p.AG⟩:AJ),a0.Aa.set a1.toNat a2,a0.Am.set a1.toNat z1,a0.Al,true⟩:Aj)).bind fun r=>some (Sum.inr r)
    else
     if (y5.AM.length:Int)≠y6.2.1 then
      (some (⟨(⟨a0.p.AF,a0.p.AB,a0.p.AD,a0.p.AG⟩:AJ),a0.Aa.set a1.toNat a2,a0.Am.set a1.toNat z1,a0.Al,true⟩:Aj)).bind fun r=>some (Sum.inr r)
     else
      if y6.1<0 then
       if 3<(y5.AX.length:Int)then
        (some (⟨(⟨a0.p.AF,a0.p.AB,a0.p.AD,a0.p.AG⟩:AJ),a0.Aa.set a1.toNat a2,a0.Am.set a1.toNat z1,a0.Al,true⟩:Aj)).bind fun r=>some (Sum.inr r)
       else
        if 0<=y6.1 then
         if (y5.AX.length:Int)≠y6.1 then
          (some (⟨(⟨a0.p.AF,a0.p.AB,a0.p.AD,a0.p.AG⟩:AJ),a0.Aa.set a1.toNat a2,a0.Am.set a1.toNat z1,a0.Al,true⟩:Aj)).bind fun r=>some (Sum.inr r)
         else
          some (Sum.inl ())
        else
         some (Sum.inl ())
      else
       if 0<=y6.1 then
        if (y5.AX.length:Int)≠y6.1 then
         (some (⟨(⟨a0.p.AF,a0.p.AB,a0.p.AD,a0.p.AG⟩:AJ),a0.Aa.set a1.toNat a2,a0.Am.set a1.toNat z1,a0.Al,true⟩:Aj)).bind fun r=>some (Sum.inr r)
        else
         some (Sum.inl ())
       else
        some (Sum.inl ())).bind fun o=>match o with
    | Sum.inr r=>some r
    | Sum.inl _=>
    (kJ AA a2 y5 AA 0 a0.bad).bind fun x1=>
    ((if y5.Op=2 then
     some (decide (y5.Op=2))
    else
     if y5.Op=6 then
      some (decide (y5.Op=6))
     else
      some (decide (y5.Op=8))).bind fun x16=>
    bif x16 then
     bif x1 then
      some (Sum.inl (a2,a0.p.AF,a0.p.AB,a0.p.AD,a0.p.AG,a0.Aa.set a1.toNat a2,a0.Am.set a1.toNat z1,a0.Al,true))
     else
      if y5.N<0 then
       some (Sum.inl (a2,a0.p.AF,a0.p.AB,a0.p.AD,a0.p.AG,a0.Aa.set a1.toNat a2,a0.Am.set a1.toNat z1,a0.Al,true))
      else
       some (Sum.inl (a2,a0.p.AF,a0.p.AB,a0.p.AD,a0.p.AG,a0.Aa.set a1.toNat a2,a0.Am.set a1.toNat z1,a0.Al,decide (a2<=y5.N)))
    else
     if y5.Op=4 then
      if y5.N<0 then
       (some (⟨(⟨a0.p.AF,a0.p.AB,a0.p.AD,a0.p.AG⟩:AJ),a0.Aa.set a1.toNat a2,a0.Am.set a1.toNat z1,a0.Al,true⟩:Aj)).bind fun r=>some (Sum.inr r)
      else
       if (a0.p.AD.length:Int)<=y5.N then
        (some (⟨(⟨a0.p.AF,a0.p.AB,a0.p.AD,a0.p.AG⟩:AJ),a0.Aa.set a1.toNat a2,a0.Am.set a1.toNat z1,a0.Al,true⟩:Aj)).bind fun r=>some (Sum.inr r)
       else
        (idx a0.Al y5.N).bind fun y9=>
        if 0<y9 then
         (some (⟨(⟨a0.p.AF,a0.p.AB,a0.p.AD,a0.p.AG⟩:AJ),a0.Aa.set a1.toNat a2,a0.Am.set a1.toNat z1,a0.Al,true⟩:Aj)).bind fun r=>some (Sum.inr r)
        else
         (idx a0.Al y5.N).bind fun y10=>
         (chk (y10+1)).bind fun z3=>
         (idx a0.Al y5.N).bind fun y11=>
         (idx a0.p.AD y5.N).bind fun y12=>
         (vY y12).bind fun y13=>
         (chk (a2+y13)).bind fun z4=>
         (idx a0.p.AD y5.N).bind fun y14=>
         ((lZ AA) (⟨(⟨a0.p.AF,a0.p.AB,a0.p.AD,a0.p.AG⟩:AJ),a0.Aa.set a1.toNat a2,a0.Am.set a1.toNat z1,a0.Al.set y5.N.toNat z3,x1⟩:Aj) y14 z4).bind fun y15=>
         some (Sum.inl (z4,y15.p.AF,y15.p.AB,y15.p.AD,y15.p.AG,y15.Aa,y15.Am,y15.Al,y15.bad))
     else
      bif x1 then
       some (Sum.inl (a2,a0.p.AF,a0.p.AB,a0.p.AD,a0.p.AG,a0.Aa.set a1.toNat a2,a0.Am.set a1.toNat z1,a0.Al,true))
      else
       some (Sum.inl (a2,a0.p.AF,a0.p.AB,a0.p.AD,a0.p.AG,a0.Aa.set a1.toNat a2,a0.Am.set a1.toNat z1,a0.Al,decide (y5.N≠0)))).bind fun o=>match o with
    | Sum.inr r=>some r
    | Sum.inl (x7,x8,x9,x10,x11,x12,x13,x14,x15)=>
    kG (fG AA) y5 x7 AA 0 x8 x9 x10 x11 x12 x13 x14 x15
def lZ:Nat->Aj->AN->Int->Option (Aj)
| 0,_,_,_=>none
| AA+1,a0,a1,a2=>
 (mF AA (fG AA) a1 a2 AA 0 a0.p.AF a0.p.AB a0.p.AD a0.p.AG a0.Aa a0.Am a0.Al a0.bad).bind fun (x1,x2,x3,x4,x5,x6,x7,x8)=>
 mC (fG AA) a1 a2 AA 0 x1 x2 x3 x4 x5 x6 x7 x8
end
theorem aLm:∀ (AA:Nat),(∀ (p0:Nat) (a0:Aj) (a1:Int) (a2:Int) (r:Aj) (H:fG AA a0 a1 a2=some r),FnS Tryz.prog 84 [fEq (.pointer (some ⟨p0,0,none⟩)),fI a1,fI a2] [mE p0 a0] (dB []) (fun _=>[mE p0 r]))/\(∀ (p0:Nat) (a0:Aj) (a1:AN) (a2:Int) (r:Aj) (H:lZ AA a0 a1 a2=some r),FnS Tryz.prog 119 [fEq (.pointer (some ⟨p0,0,none⟩)),fSt aB a1,fI a2] [mE p0 a0] (dB []) (fun _=>[mE p0 r])):=by
 intro AA
 induction AA with
 | zero=>exact⟨fun p0 a0 a1 a2 r H=>(by rw [fG]at H;cases H),fun p0 a0 a1 a2 r H=>(by rw [lZ]at H;cases H)⟩
 | succ AA ih=>
 obtain⟨ih_r03_look_node,ih_r03_look_def⟩:=@ih
 refine⟨?_,?_⟩
 intro p0 a0 a1 a2 r H
 rw [fG]at H
 refine bB Tryz.func84 rfl Tryz.ntmps84 rfl (fun β=>?_)
 refine tY (fun v1 v2 v3=>?_)
 refine rc 1 fun hc_v1=>?_
 refine rc 2 fun hc_v2=>?_
 refine rc 3 fun hc_v3=>?_
 refine aG ?_
 refine I4 H (fun c1 H=>?_) fun c1 H=>?_
 refine Z12 ?_
 refine Z12 ?_
 refine Z1 ?_
 refine bK (φs':=[fSl aD a0.p.AF,fSl aJ a0.p.AB,fSl aB a0.p.AD,fI a0.p.AG,fEq v1,fEq v2,fEq v3,aH true]) a1F rfl rfl (has rfl) (has rfl) (aF a1F) (sz rfl) rfl rfl ?_
 refine Z2 ?_
 refine fZ ?_
 cases H
 exact dH (.inl rfl) rfl rfl
 refine I10 H (fun c2 H=>?_) fun c2 H=>?_
 refine Z12 ?_
 refine Z3 ?_
 refine bK (φs':=[fSl aD a0.p.AF,fSl aJ a0.p.AB,fSl aB a0.p.AD,fI a0.p.AG,fEq v1,fEq v2,fEq v3,aH true]) a1F rfl rfl (has rfl) (has rfl) (aF a1F) (sz rfl) rfl rfl ?_
 refine Z2 ?_
 refine fZ ?_
 cases H
 exact dH (.inl rfl) rfl rfl
 refine B5 H fun y1 h1 H=>?_
 refine Yh 2 rfl c2 (jO rfl hh hh (el rfl) h1) ?_
 refine Yh 2 rfl c2 (iA rfl rfl hh (sc rfl) (dN h1) rfl) ?_
 refine I3 H (fun c3 H=>?_) fun c3 H=>?_
 refine Z5 ?_
 refine bK (φs':=[fSl aD a0.p.AF,fSl aJ a0.p.AB,fSl aB a0.p.AD,fI a0.p.AG,fEq v1,fEq v2,fEq v3,aH true]) a1F rfl rfl (has rfl) (has rfl) (aF a1F) (sz rfl) rfl rfl ?_
 refine Z2 ?_
 refine fZ ?_
 cases H
 exact dH (.inl rfl) rfl rfl
 refine B9 H fun y2 h2 H=>?_
 refine Yo 2 rfl (jO rfl hh hh (el rfl) h2) ?_
 refine Yo 2 rfl (iA rfl rfl hh (sc rfl) (dN h2) rfl) ?_
 refine bz H fun z1 h3 H=>?_
 refine B1 H fun y3 h4 H=>?_
 refine Z1 ?_
 refine dK ?_
 refine wO (z':=z1) a1F rfl rfl rfl (has rfl) (has rfl) (aF a1F) (sz rfl) (dN h4) rfl rfl ?_
 refine B8 H fun y4 h5 H=>?_
 refine Z1 ?_
 refine dK ?_
 refine wO (z':=a2) a1F rfl rfl rfl (has rfl) (has rfl) (aF a1F) (sz rfl) (dN h5) rfl rfl ?_
 refine B8 H fun y5 h6 H=>?_
 refine Z2 ?_
 refine Tn (cB rfl jV rfl) fun b1=>?_
 refine cO (φs':=[fI y5.Op,fI y5.N,fSl aN y5.AX,fSl tI y5.AM]) a1F rfl rfl (has rfl) (has rfl) (aI (aF a1F) (aI (aF a1F) (aI (aS) (aI (aS) bN)))) (sz rfl) rfl rfl rfl ?_
 refine B4 H fun y6 h7 H=>?_
 refine Tc (aKk _ _ h7) ?_
 revert H;refine B8z fun o1 H Hr1=>?_
 refine aO (ι:=Unit) (fun i=>o1=Sum.inl ()) (fun i=>[(0,fEq (ptr p0)),(2,fI a2),(6,fEq (ptr b1))]) (fun i=>[aA b1 65 [fI y5.Op,fI y5.N,fSl aN y5.AX,fSl tI y5.AM],aA p0 122 [fSl aD a0.p.AF,fSl aJ a0.p.AB,fSl aB a0.p.AD,fI a0.p.AG,fEq v1,fEq v2,fEq v3,aH a0.bad],aC v1 3 tI (a0.Aa.set a1.toNat a2),aC v2 3 tI (a0.Am.set a1.toNat z1),aC v3 3 tI a0.Al]) ?_ ?_
 refine Z4 ?_
 revert H;refine cs (fun c4 H=>?_) fun c4 H=>?_
 refine Z10 ?_
 refine cR (⟨_,_,_,_,rfl,rfl,rfl,nu⟩) rfl rfl ?_
 refine cR (⟨_,_,_,_,rfl,rfl,rfl,nu⟩) rfl rfl ?_
 refine cR (⟨_,_,_,_,rfl,rfl,rfl,nu⟩) rfl rfl ?_
 refine cR (⟨_,_,_,_,rfl,rfl,rfl,nu⟩) rfl rfl ?_
 refine Z6 ?_
 refine cR (⟨_,_,_,_,rfl,rfl,rfl,nu⟩) rfl rfl ?_
 refine cR (⟨_,_,_,_,rfl,rfl,rfl,nu⟩) rfl rfl ?_
 refine cR (⟨_,_,_,_,rfl,rfl,rfl,nu⟩) rfl rfl ?_
 refine cR (⟨_,_,_,_,rfl,rfl,rfl,nu⟩) rfl rfl ?_
 refine cR (⟨_,_,_,_,rfl,rfl,rfl,nu⟩) rfl rfl ?_
 refine Z8 ?_
 refine cZ ?_
 refine bK (φs':=[fSl aD a0.p.AF,fSl aJ a0.p.AB,fSl aB a0.p.AD,fI a0.p.AG,fEq v1,fEq v2,fEq v3,aH true]) a1F rfl rfl (has rfl) (has rfl) (aF a1F) (sz rfl) rfl rfl ?_
 revert H;refine B2z fun r1 H e1=>?_
 cases e1;cases Hr1
 refine bG ?_
 refine bG ?_
 refine bG ?_
 refine cZ ?_
 refine fZ ?_
 cases H
 refine aE [0] (by decide) ?_
 exact dH (.inl rfl) rfl rfl
 revert H;refine I7z (fun c5 H=>?_) fun c5 H=>?_
 refine Z3 ?_
 refine cR (⟨_,_,_,_,rfl,rfl,rfl,nu⟩) rfl rfl ?_
 refine cR (⟨_,_,_,_,rfl,rfl,rfl,nu⟩) rfl rfl ?_
 refine cR (⟨_,_,_,_,rfl,rfl,rfl,nu⟩) rfl rfl ?_
 refine cR (⟨_,_,_,_,rfl,rfl,rfl,nu⟩) rfl rfl ?_
 refine Z6 ?_
 refine cR (⟨_,_,_,_,rfl,rfl,rfl,nu⟩) rfl rfl ?_
 refine cR (⟨_,_,_,_,rfl,rfl,rfl,nu⟩) rfl rfl ?_
 refine cR (⟨_,_,_,_,rfl,rfl,rfl,nu⟩) rfl rfl ?_
 refine cR (⟨_,_,_,_,rfl,rfl,rfl,nu⟩) rfl rfl ?_
 refine cR (⟨_,_,_,_,rfl,rfl,rfl,nu⟩) rfl rfl ?_
 refine Z8 ?_
 refine cZ ?_
 refine bK (φs':=[fSl aD a0.p.AF,fSl aJ a0.p.AB,fSl aB a0.p.AD,fI a0.p.AG,fEq v1,fEq v2,fEq v3,aH true]) a1F rfl rfl (has rfl) (has rfl) (aF a1F) (sz rfl) rfl rfl ?_
 revert H;refine B2z fun r2 H e2=>?_
 cases e2;cases Hr1
 refine bG ?_
 refine bG ?_
 refine bG ?_
 refine cZ ?_
 refine fZ ?_
 cases H
 refine aE [0] (by decide) ?_
 exact dH (.inl rfl) rfl rfl
 revert H;refine I3z (fun c6 H=>?_) fun c6 H=>?_
 revert H;refine I7z (fun c7 H=>?_) fun c7 H=>?_
 refine Z3 ?_
 refine cR (⟨_,_,_,_,rfl,rfl,rfl,nu⟩) rfl rfl ?_
 refine cR (⟨_,_,_,_,rfl,rfl,rfl,nu⟩) rfl rfl ?_
 refine cR (⟨_,_,_,_,rfl,rfl,rfl,nu⟩) rfl rfl ?_
 refine cR (⟨_,_,_,_,rfl,rfl,rfl,nu⟩) rfl rfl ?_
 refine cR (⟨_,_,_,_,rfl,rfl,rfl,nu⟩) rfl rfl ?_
 refine Z8 ?_
 refine cZ ?_
 refine bK (φs':=[fSl aD a0.p.AF,fSl aJ a0.p.AB,fSl aB a0.p.AD,fI a0.p.AG,fEq v1,fEq v2,fEq v3,aH true]) a1F rfl rfl (has rfl) (has rfl) (aF a1F) (sz rfl) rfl rfl ?_
 revert H;refine B2z fun r3 H e3=>?_
 cases e3;cases Hr1
 refine bG ?_
 refine bG ?_
 refine bG ?_
 refine cZ ?_
 refine fZ ?_
 cases H
 refine aE [0] (by decide) ?_
 exact dH (.inl rfl) rfl rfl
 revert H;refine I3z (fun c8 H=>?_) fun c8 H=>?_
 revert H;refine I8z (fun c9 H=>?_) fun c9 H=>?_
 refine Z5 ?_
 refine cZ ?_
 refine bK (φs':=[fSl aD a0.p.AF,fSl aJ a0.p.AB,fSl aB a0.p.AD,fI a0.p.AG,fEq v1,fEq v2,fEq v3,aH true]) a1F rfl rfl (has rfl) (has rfl) (aF a1F) (sz rfl) rfl rfl ?_
 revert H;refine B2z fun r4 H e4=>?_
 cases e4;cases Hr1
 refine bG ?_
 refine bG ?_
 refine bG ?_
 refine cZ ?_
 refine fZ ?_
 cases H
 refine aE [0] (by decide) ?_
 exact dH (.inl rfl) rfl rfl
 refine Z3 ?_
 refine aE [0,3,1,2,4] (by decide) ?_
 exact Tm (()) (ij H)
 refine Z11 ?_
 refine aE [0,3,1,2,4] (by decide) ?_
 exact Tm (()) (ij H)
 revert H;refine I10z (fun c10 H=>?_) fun c10 H=>?_
 revert H;refine I8z (fun c11 H=>?_) fun c11 H=>?_
 refine Z5 ?_
 refine cZ ?_
 refine bK (φs':=[fSl aD a0.p.AF,fSl aJ a0.p.AB,fSl aB a0.p.AD,fI a0.p.AG,fEq v1,fEq v2,fEq v3,aH true]) a1F rfl rfl (has rfl) (has rfl) (aF a1F) (sz rfl) rfl rfl ?_
 revert H;refine B2z fun r5 H e5=>?_
 cases e5;cases Hr1
 refine bG ?_
 refine bG ?_
 refine bG ?_
 refine cZ ?_
 refine fZ ?_
 cases H
 refine aE [0] (by decide) ?_
 exact dH (.inl rfl) rfl rfl
 refine Z3 ?_
 refine aE [0,3,1,2,4] (by decide) ?_
 exact Tm (()) (ij H)
 refine Z11 ?_
 refine aE [0,3,1,2,4] (by decide) ?_
 exact Tm (()) (ij H)
 rintro i hi;subst o1;replace H:=Hr1;clear Hr1;try dsimp only at H ⊢
 revert H;refine bs fun o2 H Hr2=>?_
 refine aO (fun i=>o2=i) (fun i=>[(0,fEq (ptr p0)),(2,fI a2),(6,fEq (ptr b1))]) (fun i=>[aA b1 65 [fI y5.Op,fI y5.N,fSl aN y5.AX,fSl tI y5.AM],aA p0 122 [fSl aD a0.p.AF,fSl aJ a0.p.AB,fSl aB a0.p.AD,fI a0.p.AG,fEq v1,fEq v2,fEq v3,aH i],aC v1 3 tI (a0.Aa.set a1.toNat a2),aC v2 3 tI (a0.Am.set a1.toNat z1),aC v3 3 tI a0.Al]) ?_ ?_
 refine Z4 ?_
 refine Th (ι:=Int × Bool) (fun i=>kJ AA a2 y5 i.1 i.2.1 i.2.2=_) (fun i=>[(0,fEq (ptr p0)),(2,fI a2),(6,fEq (ptr b1)),(10,fI i.2.1)]) (fun i=>[aA b1 65 [fI y5.Op,fI y5.N,fSl aN y5.AX,fSl tI y5.AM],aA p0 122 [fSl aD a0.p.AF,fSl aJ a0.p.AB,fSl aB a0.p.AD,fI a0.p.AG,fEq v1,fEq v2,fEq v3,aH i.2.2],aC v1 3 tI (a0.Aa.set a1.toNat a2),aC v2 3 tI (a0.Am.set a1.toNat z1),aC v3 3 tI a0.Al]) (AA,0,a0.bad) H (fun _ h=>nomatch h) ?_
 clear H;rintro k1 ⟨x4,x5⟩ H;dsimp only at H ⊢;rw [kJ]at H
 refine aG ?_
 revert H;refine I7z (fun c12 H=>?_) fun c12 H=>?_
 revert H;refine B3z fun o3 H Hr3=>?_
 refine aO (fun i=>o3=i) (fun i=>[(0,fEq (ptr p0)),(2,fI a2),(6,fEq (ptr b1)),(10,fI x4)]) (fun i=>[aA p0 122 [fSl aD a0.p.AF,fSl aJ a0.p.AB,fSl aB a0.p.AD,fI a0.p.AG,fEq v1,fEq v2,fEq v3,aH i],aA b1 65 [fI y5.Op,fI y5.N,fSl aN y5.AX,fSl tI y5.AM],aC v1 3 tI (a0.Aa.set a1.toNat a2),aC v2 3 tI (a0.Am.set a1.toNat z1),aC v3 3 tI a0.Al]) ?_ ?_
 refine Z8 ?_
 revert H;refine cs (fun c13 H=>?_) fun c13 H=>?_
 refine Z11 ?_
 refine bH ?_
 refine bK (φs':=[fSl aD a0.p.AF,fSl aJ a0.p.AB,fSl aB a0.p.AD,fI a0.p.AG,fEq v1,fEq v2,fEq v3,aH true]) a1F rfl rfl (has rfl) (has rfl) (aF a1F) (sz rfl) rfl rfl ?_
 refine Z3 ?_
 exact Tm (true) (ij H)
 revert H;refine B3z fun y7 h8 H=>?_
 revert H;refine B3z fun y8 h9 H=>?_
 refine Tc (aFq _ _ _ _ h9) ?_
 refine Z4 ?_
 refine bH ?_
 refine bK (φs':=[fSl aD a0.p.AF,fSl aJ a0.p.AB,fSl aB a0.p.AD,fI a0.p.AG,fEq v1,fEq v2,fEq v3,aH (!y8)]) a1F rfl rfl (has rfl) (has rfl) (aF a1F) (sz rfl) rfl rfl ?_
 refine Z3 ?_
 exact Tm (!y8) (ij H)
 rintro x6 hi;subst o3;replace H:=Hr3;clear Hr3;try dsimp only at H ⊢
 revert H;refine B2z fun z2 h10 H=>?_
 refine Z3 ?_
 refine aE [1,0,2,3,4] (by decide) ?_
 exact Tm ((k1,z2,x6)) ⟨H,ls⟩
 refine Z6 ?_
 exact Tm (x5) (ij H)
 rintro x1 hi;subst o2;replace H:=Hr2;clear Hr2;try dsimp only at H ⊢
 revert H;refine B4z fun o4 H Hr4=>?_
 refine aO (ι:=Int × List ByteArray × List AZ × List AN × Int × List Int × List Int × List Int × Bool × Value × Value × Value) (fun i=>o4=Sum.inl (i.1,i.2.1,i.2.2.1,i.2.2.2.1,i.2.2.2.2.1,i.2.2.2.2.2.1,i.2.2.2.2.2.2.1,i.2.2.2.2.2.2.2.1,i.2.2.2.2.2.2.2.2.1)) (fun i=>[(0,fEq (ptr p0)),(6,fEq (ptr b1)),(11,fI i.1)]) (fun i=>[aA p0 122 [fSl aD i.2.1,fSl aJ i.2.2.1,fSl aB i.2.2.2.1,fI i.2.2.2.2.1,fEq i.2.2.2.2.2.2.2.2.2.1,fEq i.2.2.2.2.2.2.2.2.2.2.1,fEq i.2.2.2.2.2.2.2.2.2.2.2,aH i.2.2.2.2.2.2.2.2.1],aA b1 65 [fI y5.Op,fI y5.N,fSl aN y5.AX,fSl tI y5.AM],aC i.2.2.2.2.2.2.2.2.2.1 3 tI i.2.2.2.2.2.1,aC i.2.2.2.2.2.2.2.2.2.2.1 3 tI i.2.2.2.2.2.2.1,aC i.2.2.2.2.2.2.2.2.2.2.2 3 tI i.2.2.2.2.2.2.2.1]) ?_ ?_
 revert H;refine B5z fun o5 H Hr5=>?_
 refine aO (fun i=>o5=i) (fun i=>[(0,fEq (ptr p0)),(2,fI a2),(6,fEq (ptr b1)),(11,fI a2),(128,fI y5.Op),(141,aH i)]) (fun i=>[aA b1 65 [fI y5.Op,fI y5.N,fSl aN y5.AX,fSl tI y5.AM],aA p0 122 [fSl aD a0.p.AF,fSl aJ a0.p.AB,fSl aB a0.p.AD,fI a0.p.AG,fEq v1,fEq v2,fEq v3,aH x1],aC v1 3 tI (a0.Aa.set a1.toNat a2),aC v2 3 tI (a0.Am.set a1.toNat z1),aC v3 3 tI a0.Al]) ?_ ?_
 revert H;refine I4z (fun c14 H=>?_) fun c14 H=>?_
 refine Z3 ?_
 exact Tm (decide (y5.Op=2)) (ij H)
 revert H;refine I5z (fun c15 H=>?_) fun c15 H=>?_
 refine Z3 ?_
 exact Tm (decide (y5.Op=6)) (ij H)
 refine Z5 ?_
 exact Tm (decide (y5.Op=8)) (ij H)
 rintro x16 hi;subst o5;replace H:=Hr5;clear Hr5;try dsimp only at H ⊢
 revert H;refine cs (fun c16 H=>?_) fun c16 H=>?_
 refine Z8 ?_
 revert H;refine cs (fun c17 H=>?_) fun c17 H=>?_
 refine Z12 ?_
 refine bH ?_
 refine bK (φs':=[fSl aD a0.p.AF,fSl aJ a0.p.AB,fSl aB a0.p.AD,fI a0.p.AG,fEq v1,fEq v2,fEq v3,aH true]) a1F rfl rfl (has rfl) (has rfl) (aF a1F) (sz rfl) rfl rfl ?_
 refine Z3 ?_
 exact Tm ((a2,a0.p.AF,a0.p.AB,a0.p.AD,a0.p.AG,a0.Aa.set a1.toNat a2,a0.Am.set a1.toNat z1,a0.Al,true,v1,v2,v3)) (ij H)
 revert H;refine I5z (fun c18 H=>?_) fun c18 H=>?_
 refine Z7 ?_
 refine bH ?_
 refine bK (φs':=[fSl aD a0.p.AF,fSl aJ a0.p.AB,fSl aB a0.p.AD,fI a0.p.AG,fEq v1,fEq v2,fEq v3,aH true]) a1F rfl rfl (has rfl) (has rfl) (aF a1F) (sz rfl) rfl rfl ?_
 refine Z3 ?_
 exact Tm ((a2,a0.p.AF,a0.p.AB,a0.p.AD,a0.p.AG,a0.Aa.set a1.toNat a2,a0.Am.set a1.toNat z1,a0.Al,true,v1,v2,v3)) (ij H)
 refine Z7 ?_
 refine bH ?_
 refine bK (φs':=[fSl aD a0.p.AF,fSl aJ a0.p.AB,fSl aB a0.p.AD,fI a0.p.AG,fEq v1,fEq v2,fEq v3,aH (decide (a2<=y5.N))]) a1F rfl rfl (has rfl) (has rfl) (aF a1F) (sz rfl) rfl rfl ?_
 refine Z3 ?_
 exact Tm ((a2,a0.p.AF,a0.p.AB,a0.p.AD,a0.p.AG,a0.Aa.set a1.toNat a2,a0.Am.set a1.toNat z1,a0.Al,decide (a2<=y5.N),v1,v2,v3)) (ij H)
 revert H;refine I5z (fun c19 H=>?_) fun c19 H=>?_
 refine Z1 ?_
 refine aG ?_
 refine aG ?_
 revert H;refine is (fun c20 H=>?_) fun c20 H=>?_
 apply bD (ods:=[_,_,_,_,_,_,_,_,_,_,_,_,_,_,_,_,_,_,_,_,_,_,_,_,_]) 25 0 5 bC rfl rfl rfl
 refine ND ?_
 refine M8 ?_
 intros
 refine M8 ?_
 intros
 refine M8 ?_
 intros
 refine M1 ?_
 intros
 refine Z7 ?_
 refine bH ?_
 refine bK (φs':=[fSl aD a0.p.AF,fSl aJ a0.p.AB,fSl aB a0.p.AD,fI a0.p.AG,fEq v1,fEq v2,fEq v3,aH true]) a1F rfl rfl (has rfl) (has rfl) (aF a1F) (sz rfl) rfl rfl ?_
 revert H;refine B4z fun r6 H e6=>?_
 cases e6;cases Hr4
 refine bG ?_
 refine bG ?_
 refine bG ?_
 refine cZ ?_
 refine fZ ?_
 cases H
 refine aE [0] (by decide) ?_
 exact dH (.inl rfl) rfl rfl
 exact fk
 kernel_rfl
 revert H;refine is (fun c21 H=>?_) fun c21 H=>?_
 apply bD (ods:=[_,_,_,_,_,_,_,_,_,_,_,_,_,_,_,_,_,_,_,_,_,_,_,_,_]) 25 0 5 bC rfl rfl rfl
 refine ND ?_
 refine M8 ?_
 intros
 refine M8 ?_
 intros
 refine M8 ?_
 intros
 refine M1 ?_
 intros
 refine Z7 ?_
 refine bH ?_
 refine bK (φs':=[fSl aD a0.p.AF,fSl aJ a0.p.AB,fSl aB a0.p.AD,fI a0.p.AG,fEq v1,fEq v2,fEq v3,aH true]) a1F rfl rfl (has rfl) (has rfl) (aF a1F) (sz rfl) rfl rfl ?_
 revert H;refine B4z fun r7 H e7=>?_
 cases e7;cases Hr4
 refine bG ?_
 refine bG ?_
 refine bG ?_
 refine cZ ?_
 refine fZ ?_
 cases H
 refine aE [0] (by decide) ?_
 exact dH (.inl rfl) rfl rfl
 exact fk
 kernel_rfl
 revert H;refine bs fun y9 h11 H=>?_
 apply bD (ods:=[_,_,_,_,_,_,_,_,_,_,_,_,_,_,_,_,_,_,_,_,_,_,_,_,_]) 25 0 5 bC rfl rfl rfl
 refine ND ?_
 refine M8 ?_
 intros
 refine M8 ?_
 intros
 refine M5 ?_
 intros
 refine N_op (od:=odC [4] false (mR v3 1 y5.N.toNat 0) [gG]) (ps:=[4]) (φ:=mR v3 1 y5.N.toNat 0) rfl (fun _=>rfl) ⟨_,_,rfl,rfl,c21⟩ rfl rfl (jO rfl hh hh (el rfl) h11) (fun _=>?_)
 refine N_op (od:=odC [4] false (fI y9) [gG]) (ps:=[4]) (φ:=fI y9) rfl (fun _=>rfl) ⟨_,_,rfl,rfl,c21⟩ rfl rfl (iA rfl rfl hh (sc rfl) (dN h11) rfl) (fun _=>?_)
 refine M2 ?_
 intros
 revert H;refine I2z (fun c22 H=>?_) fun c22 H=>?_
 refine Z5 ?_
 refine bH ?_
 refine bK (φs':=[fSl aD a0.p.AF,fSl aJ a0.p.AB,fSl aB a0.p.AD,fI a0.p.AG,fEq v1,fEq v2,fEq v3,aH true]) a1F rfl rfl (has rfl) (has rfl) (aF a1F) (sz rfl) rfl rfl ?_
 revert H;refine B4z fun r8 H e8=>?_
 cases e8;cases Hr4
 refine bG ?_
 refine bG ?_
 refine bG ?_
 refine cZ ?_
 refine fZ ?_
 cases H
 refine aE [0] (by decide) ?_
 exact dH (.inl rfl) rfl rfl
 refine Z3 ?_
 refine aG ?_
 revert H;refine bs fun y10 h12 H=>?_
 revert H;refine bs fun z3 h13 H=>?_
 revert H;refine bs fun y11 h14 H=>?_
 apply bD (ods:=[_,_,_,_,_,_,_,_,_,_,_]) 11 0 5 bC rfl rfl rfl
 refine ND ?_
 refine M6 ?_
 intros
 refine Mo 4 rfl (jO rfl hh hh (el rfl) h12) fun _=>?_
 refine Mo 4 rfl (iA rfl rfl hh (sc rfl) (dN h12) rfl) fun _=>?_
 refine M2 ?_
 intros
 refine mJ (od:=odC [4] true (dP) [aC v3 3 tI (a0.Al.set y5.N.toNat z3)]) (p:=4) (z':=z3) rfl (fun _=>rfl) (fun _=>rfl) a1F rfl rfl rfl rfl (has rfl) (has rfl) (aF a1F) (sz rfl) (dN h14) rfl rfl (fun _=>?_)
 refine Z2 ?_
 refine aG ?_
 revert H;refine bs fun y12 h15 H=>?_
 revert H;refine bs fun y13 h16 H=>?_
 revert H;refine bs fun z4 h17 H=>?_
 apply bD (ods:=[_,_,_,_,_,_,_,_,_,_,_,_,_]) 13 0 5 bC rfl rfl rfl
 refine ND ?_
 refine M8 ?_
 intros
 refine My (cT rfl hh hh (el rfl) h15) fun _=>?_
 refine M1 ?_
 intros
 refine Nc (aIx _ _ h16) fun _=>?_
 refine M2 ?_
 intros
 revert H;refine B2z fun y14 h18 H=>?_
 apply bD (ods:=[_,_,_,_,_,_,_,_,_,_,_]) 11 0 5 bC rfl rfl rfl
 refine ND ?_
 refine M8 ?_
 intros
 refine M3 ?_
 intros
 refine Z1 ?_
 refine bG ?_
 refine bG ?_
 refine bG ?_
 refine bG ?_
 refine fZ ?_
 revert H;refine bs fun y15 h19 H=>?_
 refine Tc (ih_r03_look_def _ _ _ _ _ h19) ?_
 refine tY (fun v7 v8 v9=>?_)
 refine rc 1 fun _=>?_
 refine rc 2 fun _=>?_
 refine rc 3 fun _=>?_
 refine Z3 ?_
 refine aE [0,4,1,2,3] (by decide) ?_
 exact Tm ((z4,y15.p.AF,y15.p.AB,y15.p.AD,y15.p.AG,y15.Aa,y15.Am,y15.Al,y15.bad,v7,v8,v9)) (ij H)
 exact fk
 kernel_rfl
 exact fk
 kernel_rfl
 exact fk
 kernel_rfl
 exact fk
 kernel_rfl
 refine Z8 ?_
 revert H;refine cs (fun c23 H=>?_) fun c23 H=>?_
 refine Z6 ?_
 refine bH ?_
 refine bK (φs':=[fSl aD a0.p.AF,fSl aJ a0.p.AB,fSl aB a0.p.AD,fI a0.p.AG,fEq v1,fEq v2,fEq v3,aH true]) a1F rfl rfl (has rfl) (has rfl) (aF a1F) (sz rfl) rfl rfl ?_
 refine Z3 ?_
 exact Tm ((a2,a0.p.AF,a0.p.AB,a0.p.AD,a0.p.AG,a0.Aa.set a1.toNat a2,a0.Am.set a1.toNat z1,a0.Al,true,v1,v2,v3)) (ij H)
 refine Z6 ?_
 refine bH ?_
 refine bK (φs':=[fSl aD a0.p.AF,fSl aJ a0.p.AB,fSl aB a0.p.AD,fI a0.p.AG,fEq v1,fEq v2,fEq v3,aH (decide (y5.N≠0))]) a1F rfl rfl (has rfl) (has rfl) (aF a1F) (sz rfl) rfl rfl ?_
 refine Z3 ?_
 exact Tm ((a2,a0.p.AF,a0.p.AB,a0.p.AD,a0.p.AG,a0.Aa.set a1.toNat a2,a0.Am.set a1.toNat z1,a0.Al,decide (y5.N≠0),v1,v2,v3)) (ij H)
 rintro⟨x7,x8,x9,x10,x11,x12,x13,x14,x15,v4,v5,v6⟩ hi;subst o4;replace H:=Hr4;clear Hr4;try dsimp only at H ⊢
 refine rc 2 fun hc_v4=>?_
 refine rc 3 fun hc_v5=>?_
 refine rc 4 fun hc_v6=>?_
 refine Z4 ?_
 refine Th (ι:=Int × List ByteArray × List AZ × List AN × Int × List Int × List Int × List Int × Bool × Value × Value × Value) (fun i=>kG (fG AA) y5 x7 i.1 i.2.1 i.2.2.1 i.2.2.2.1 i.2.2.2.2.1 i.2.2.2.2.2.1 i.2.2.2.2.2.2.1 i.2.2.2.2.2.2.2.1 i.2.2.2.2.2.2.2.2.1 i.2.2.2.2.2.2.2.2.2.1=_) (fun i=>[(0,fEq (ptr p0)),(6,fEq (ptr b1)),(11,fI x7),(12,fI i.2.1)]) (fun i=>[aA p0 122 [fSl aD i.2.2.1,fSl aJ i.2.2.2.1,fSl aB i.2.2.2.2.1,fI i.2.2.2.2.2.1,fEq i.2.2.2.2.2.2.2.2.2.2.1,fEq i.2.2.2.2.2.2.2.2.2.2.2.1,fEq i.2.2.2.2.2.2.2.2.2.2.2.2,aH i.2.2.2.2.2.2.2.2.2.1],aA b1 65 [fI y5.Op,fI y5.N,fSl aN y5.AX,fSl tI y5.AM],aC i.2.2.2.2.2.2.2.2.2.2.1 3 tI i.2.2.2.2.2.2.1,aC i.2.2.2.2.2.2.2.2.2.2.2.1 3 tI i.2.2.2.2.2.2.2.1,aC i.2.2.2.2.2.2.2.2.2.2.2.2 3 tI i.2.2.2.2.2.2.2.2.1]) (AA,0,x8,x9,x10,x11,x12,x13,x14,x15,v4,v5,v6) H (fun _ h=>nomatch h) ?_
 clear H;rintro k2 ⟨x26,x27,x28,x29,x30,x31,x32,x33,x34,v13,v14,v15⟩ H;dsimp only at H ⊢;rw [kG]at H
 refine rc 2 fun hc_v13=>?_
 refine rc 3 fun hc_v14=>?_
 refine rc 4 fun hc_v15=>?_
 refine aG ?_
 refine I7 H (fun c24 H=>?_) fun c24 H=>?_
 refine Z7 ?_
 refine cz H (fun c25 H=>?_) fun c25 H=>?_
 refine Z5 ?_
 refine bG ?_
 refine bG ?_
 refine bG ?_
 refine cZ ?_
 refine fZ ?_
 cases H
 refine aE [0] (by decide) ?_
 exact dH (.inr rfl) rfl rfl
 refine Z3 ?_
 refine aG ?_
 refine B6 H fun y16 h20 H=>?_
 refine Z3 ?_
 refine bG ?_
 refine bG ?_
 refine bG ?_
 refine cZ ?_
 refine fZ ?_
 refine bz H fun y17 h21 H=>?_
 refine Tc (ih_r03_look_node _ _ _ _ _ h21) ?_
 refine tY (fun v16 v17 v18=>?_)
 refine rc 1 fun _=>?_
 refine rc 2 fun _=>?_
 refine rc 3 fun _=>?_
 refine B5 H fun z5 h22 H=>?_
 refine Z3 ?_
 refine aE [0,4,1,2,3] (by decide) ?_
 exact Tm ((k2,z5,y17.p.AF,y17.p.AB,y17.p.AD,y17.p.AG,y17.Aa,y17.Am,y17.Al,y17.bad,v16,v17,v18)) ⟨H,ls⟩
 refine Z12 ?_
 refine bG ?_
 refine bG ?_
 refine bG ?_
 refine cZ ?_
 refine fZ ?_
 cases H
 refine aE [0] (by decide) ?_
 exact dH (.inr rfl) rfl rfl
 intro p0 a0 a1 a2 r H
 rw [lZ]at H
 refine bB Tryz.func119 rfl Tryz.ntmps119 rfl (fun β=>?_)
 refine tY (fun v1 v2 v3=>?_)
 refine rc 1 fun hc_v1=>?_
 refine rc 2 fun hc_v2=>?_
 refine rc 3 fun hc_v3=>?_
 refine Z1 ?_
 refine Tn (bU rfl hh bM) fun b1=>?_
 revert H;refine B1z fun o1 H Hr1=>?_
 refine aO (ι:=List ByteArray × List AZ × List AN × Int × List Int × List Int × List Int × Bool × Value × Value × Value) (fun i=>o1=(i.1,i.2.1,i.2.2.1,i.2.2.2.1,i.2.2.2.2.1,i.2.2.2.2.2.1,i.2.2.2.2.2.2.1,i.2.2.2.2.2.2.2.1)) (fun i=>[(0,fEq (ptr p0)),(2,fI a2),(4,fEq (ptr b1))]) (fun i=>[aA b1 77 [fSl aZ a1.AT,fSl aU a1.AS,fSl aY a1.AQ],aA p0 122 [fSl aD i.1,fSl aJ i.2.1,fSl aB i.2.2.1,fI i.2.2.2.1,fEq i.2.2.2.2.2.2.2.2.1,fEq i.2.2.2.2.2.2.2.2.2.1,fEq i.2.2.2.2.2.2.2.2.2.2,aH i.2.2.2.2.2.2.2.1],aC i.2.2.2.2.2.2.2.2.1 3 tI i.2.2.2.2.1,aC i.2.2.2.2.2.2.2.2.2.1 3 tI i.2.2.2.2.2.1,aC i.2.2.2.2.2.2.2.2.2.2 3 tI i.2.2.2.2.2.2.1]) ?_ ?_
 refine Z4 ?_
 refine Th (ι:=Int × List ByteArray × List AZ × List AN × Int × List Int × List Int × List Int × Bool × Value × Value × Value) (fun i=>mF AA (fG AA) a1 a2 i.1 i.2.1 i.2.2.1 i.2.2.2.1 i.2.2.2.2.1 i.2.2.2.2.2.1 i.2.2.2.2.2.2.1 i.2.2.2.2.2.2.2.1 i.2.2.2.2.2.2.2.2.1 i.2.2.2.2.2.2.2.2.2.1=_) (fun i=>[(0,fEq (ptr p0)),(2,fI a2),(4,fEq (ptr b1)),(6,fI i.2.1)]) (fun i=>[aA b1 77 [fSl aZ a1.AT,fSl aU a1.AS,fSl aY a1.AQ],aA p0 122 [fSl aD i.2.2.1,fSl aJ i.2.2.2.1,fSl aB i.2.2.2.2.1,fI i.2.2.2.2.2.1,fEq i.2.2.2.2.2.2.2.2.2.2.1,fEq i.2.2.2.2.2.2.2.2.2.2.2.1,fEq i.2.2.2.2.2.2.2.2.2.2.2.2,aH i.2.2.2.2.2.2.2.2.2.1],aC i.2.2.2.2.2.2.2.2.2.2.1 3 tI i.2.2.2.2.2.2.1,aC i.2.2.2.2.2.2.2.2.2.2.2.1 3 tI i.2.2.2.2.2.2.2.1,aC i.2.2.2.2.2.2.2.2.2.2.2.2 3 tI i.2.2.2.2.2.2.2.2.1]) (AA,0,a0.p.AF,a0.p.AB,a0.p.AD,a0.p.AG,a0.Aa,a0.Am,a0.Al,a0.bad,v1,v2,v3) H (fun _ h=>nomatch h) ?_
 clear H;rintro k1 ⟨x18,x19,x20,x21,x22,x23,x24,x25,x26,v10,v11,v12⟩ H;dsimp only at H ⊢;rw [mF]at H
 refine rc 2 fun _=>?_
 refine rc 3 fun _=>?_
 refine rc 4 fun _=>?_
 refine aG ?_
 revert H;refine I7z (fun c1 H=>?_) fun c1 H=>?_
 refine Z7 ?_
 revert H;refine cs (fun c2 H=>?_) fun c2 H=>?_
 refine Z6 ?_
 exact Tm ((x19,x20,x21,x22,x23,x24,x25,x26,v10,v11,v12)) (ij H)
 refine Z3 ?_
 refine aG ?_
 revert H;refine B1z fun y1 h1 H=>?_
 revert H;refine bs fun y2 h2 H=>?_
 revert H;refine bs fun y3 h3 H=>?_
 revert H;refine bs fun z1 h4 H=>?_
 apply bD (ods:=[_,_,_,_,_,_,_,_,_,_,_,_,_,_,_,_]) 16 0 5 bC rfl rfl rfl
 refine ND ?_
 refine M4 ?_
 intros
 refine My (cT rfl hh hh (el rfl) h1) fun _=>?_
 refine M7 ?_
 intros
 refine My (cT rfl hh hh (el rfl) h2) fun _=>?_
 refine M1 ?_
 intros
 refine Nc (aJz _ _ _ _ h3) fun _=>?_
 refine M1 ?_
 intros
 refine Z1 ?_
 refine bG ?_
 refine bG ?_
 refine bG ?_
 refine bG ?_
 refine fZ ?_
 revert H;refine bs fun y4 h5 H=>?_
 refine Tc (ih_r03_look_node _ _ _ _ _ h5) ?_
 refine tY (fun v13 v14 v15=>?_)
 refine rc 1 fun hc_v13=>?_
 refine rc 2 fun hc_v14=>?_
 refine rc 3 fun hc_v15=>?_
 revert H;refine B5z fun z2 h6 H=>?_
 refine Z3 ?_
 refine aE [4,0,1,2,3] (by decide) ?_
 exact Tm ((k1,z2,y4.p.AF,y4.p.AB,y4.p.AD,y4.p.AG,y4.Aa,y4.Am,y4.Al,y4.bad,v13,v14,v15)) ⟨H,ls⟩
 exact fk
 kernel_rfl
 refine Z12 ?_
 refine Z1 ?_
 exact Tm ((x19,x20,x21,x22,x23,x24,x25,x26,v10,v11,v12)) (ij H)
 rintro⟨x1,x2,x3,x4,x5,x6,x7,x8,v4,v5,v6⟩ hi;subst o1;replace H:=Hr1;clear Hr1;try dsimp only at H ⊢
 refine rc 2 fun hc_v4=>?_
 refine rc 3 fun hc_v5=>?_
 refine rc 4 fun hc_v6=>?_
 refine Z4 ?_
 refine Th (ι:=Int × List ByteArray × List AZ × List AN × Int × List Int × List Int × List Int × Bool × Value × Value × Value) (fun i=>mC (fG AA) a1 a2 i.1 i.2.1 i.2.2.1 i.2.2.2.1 i.2.2.2.2.1 i.2.2.2.2.2.1 i.2.2.2.2.2.2.1 i.2.2.2.2.2.2.2.1 i.2.2.2.2.2.2.2.2.1 i.2.2.2.2.2.2.2.2.2.1=_) (fun i=>[(0,fEq (ptr p0)),(2,fI a2),(4,fEq (ptr b1)),(7,fI i.2.1)]) (fun i=>[aA b1 77 [fSl aZ a1.AT,fSl aU a1.AS,fSl aY a1.AQ],aA p0 122 [fSl aD i.2.2.1,fSl aJ i.2.2.2.1,fSl aB i.2.2.2.2.1,fI i.2.2.2.2.2.1,fEq i.2.2.2.2.2.2.2.2.2.2.1,fEq i.2.2.2.2.2.2.2.2.2.2.2.1,fEq i.2.2.2.2.2.2.2.2.2.2.2.2,aH i.2.2.2.2.2.2.2.2.2.1],aC i.2.2.2.2.2.2.2.2.2.2.1 3 tI i.2.2.2.2.2.2.1,aC i.2.2.2.2.2.2.2.2.2.2.2.1 3 tI i.2.2.2.2.2.2.2.1,aC i.2.2.2.2.2.2.2.2.2.2.2.2 3 tI i.2.2.2.2.2.2.2.2.1]) (AA,0,x1,x2,x3,x4,x5,x6,x7,x8,v4,v5,v6) H (fun _ h=>nomatch h) ?_
 clear H;rintro k2 ⟨x36,x37,x38,x39,x40,x41,x42,x43,x44,v19,v20,v21⟩ H;dsimp only at H ⊢;rw [mC]at H
 refine rc 2 fun _=>?_
 refine rc 3 fun _=>?_
 refine rc 4 fun _=>?_
 refine aG ?_
 refine I7 H (fun c3 H=>?_) fun c3 H=>?_
 refine Z7 ?_
 refine cz H (fun c4 H=>?_) fun c4 H=>?_
 refine Z5 ?_
 refine bG ?_
 refine bG ?_
 refine bG ?_
 refine bG ?_
 refine fZ ?_
 cases H
 refine aE [0] (by decide) ?_
 exact dH (.inr rfl) rfl rfl
 refine Z3 ?_
 refine aG ?_
 refine B6 H fun y5 h7 H=>?_
 refine Z4 ?_
 refine bG ?_
 refine bG ?_
 refine bG ?_
 refine bG ?_
 refine fZ ?_
 refine bz H fun y6 h8 H=>?_
 refine Tc (ih_r03_look_node _ _ _ _ _ h8) ?_
 refine tY (fun v22 v23 v24=>?_)
 refine rc 1 fun _=>?_
 refine rc 2 fun _=>?_
 refine rc 3 fun _=>?_
 refine B5 H fun z3 h9 H=>?_
 refine Z3 ?_
 refine aE [4,0,1,2,3] (by decide) ?_
 exact Tm ((k2,z3,y6.p.AF,y6.p.AB,y6.p.AD,y6.p.AG,y6.Aa,y6.Am,y6.Al,y6.bad,v22,v23,v24)) ⟨H,ls⟩
 refine Z12 ?_
 refine bG ?_
 refine bG ?_
 refine bG ?_
 refine bG ?_
 refine fZ ?_
 cases H
 refine aE [0] (by decide) ?_
 exact dH (.inr rfl) rfl rfl
theorem aKM (AA:Nat) (p0:Nat) (a0:Aj) (a1:Int) (a2:Int) (r:Aj) (H:fG AA a0 a1 a2=some r):FnS Tryz.prog 84 [fEq (.pointer (some ⟨p0,0,none⟩)),fI a1,fI a2] [mE p0 a0] (dB []) (fun _=>[mE p0 r]):=(aLm AA).1 p0 a0 a1 a2 r H
open Go.SX Go.SW Go.Dt
def kB (AA:Nat) (a0:AJ):Nat->Int->Bool->Option (Bool)
| 0,_,_=>none
| k+1,x4,x5=>
 if x4<(a0.AF.length:Int)then
  (bif x5 then
   some true
  else
   (idx a0.AF x4).bind fun y1=>
   (uF AA y1).bind fun y2=>
   bif !y2 then
    some true
   else
    if 0<x4 then
     (idx a0.AF x4).bind fun y3=>
     (chk (x4 - 1)).bind fun z1=>
     (idx a0.AF z1).bind fun y4=>
     some (sle y3 y4)
    else
     some false).bind fun x6=>
  (chk (x4+1)).bind fun z2=>
  kB AA a0 k z2 x6
 else
  some x5
def lR (AA:Nat) (a0:AJ):Nat->Int->Bool->Option (Bool)
| 0,_,_=>none
| k+1,x10,x11=>
 if x10<(a0.AD.length:Int)then
  (bif x11 then
   some true
  else
   (idx a0.AD x10).bind fun y5=>
   (zQ AA y5).bind fun y6=>
   some (!y6)).bind fun x12=>
  (chk (x10+1)).bind fun z3=>
  lR AA a0 k z3 x12
 else
  some x11
def lM (y10:Aj):Nat->Int->Bool->Option (Bool)
| 0,_,_=>none
| k+1,x16,x17=>
 if x16<(y10.Am.length:Int)then
  (bif x17 then
   some true
  else
   (idx y10.Am x16).bind fun y11=>
   some (decide (y11=0))).bind fun x18=>
  (chk (x16+1)).bind fun z4=>
  lM y10 k z4 x18
 else
  some x17
def lO (y10:Aj):Nat->Int->Bool->Option (Bool)
| 0,_,_=>none
| k+1,x22,x23=>
 if x22<(y10.Al.length:Int)then
  (bif x23 then
   some true
  else
   (idx y10.Al x22).bind fun y12=>
   some (decide (y12=0))).bind fun x24=>
  (chk (x22+1)).bind fun z5=>
  lO y10 k z5 x24
 else
  some x23
def uY (AA:Nat) (a0:AJ):Option (Aj):=
 if 12<(a0.AF.length:Int)then
  some (⟨(⟨a0.AF,a0.AB,a0.AD,a0.AG⟩:AJ),[],[],[],true⟩:Aj)
 else
  if 60<(a0.AB.length:Int)then
   some (⟨(⟨a0.AF,a0.AB,a0.AD,a0.AG⟩:AJ),[],[],[],true⟩:Aj)
  else
   if 12<(a0.AD.length:Int)then
    some (⟨(⟨a0.AF,a0.AB,a0.AD,a0.AG⟩:AJ),[],[],[],true⟩:Aj)
   else
    (kB AA a0 AA 0 false).bind fun x1=>
    (lR AA a0 AA 0 x1).bind fun x7=>
    (mk 0 (a0.AB.length:Int)).bind fun y7=>
    (mk 0 (a0.AB.length:Int)).bind fun y8=>
    (mk 0 (a0.AD.length:Int)).bind fun y9=>
    bif x7 then
     some (⟨(⟨a0.AF,a0.AB,a0.AD,a0.AG⟩:AJ),y7,y8,y9,x7⟩:Aj)
    else
     (fG AA (⟨(⟨a0.AF,a0.AB,a0.AD,a0.AG⟩:AJ),y7,y8,y9,x7⟩:Aj) a0.AG (a0.AF.length:Int)).bind fun y10=>
     (lM y10 AA 0 y10.bad).bind fun x13=>
     (lO y10 AA 0 x13).bind fun x19=>
     some (⟨(⟨y10.p.AF,y10.p.AB,y10.p.AD,y10.p.AG⟩:AJ),y10.Aa,y10.Am,y10.Al,x19⟩:Aj)
theorem aGt (AA:Nat)  (a0:AJ) (r:Aj) (H:uY AA a0=some r):FnS Tryz.prog 51 [fSt dQ a0] [] (aL vJ r) (fun _=>[]):=by
 unfold uY at H
 refine bB Tryz.func51 rfl Tryz.ntmps51 rfl (fun β=>?_)
 refine Z1 ?_
 refine Tn (bU rfl hh bM) fun b1=>?_
 refine Z4 ?_
 refine Yy (gL (ψs:=[fSl aD a0.AF,fSl aJ a0.AB,fSl aB a0.AD,fI a0.AG,fEq (.slice none 0 0),fEq (.slice none 0 0),fEq (.slice none 0 0),aH false]) rfl aIB rfl (bW.cons (has rfl) bM bW.nil) rfl) ?_
 refine Tn (bU rfl hh bM) fun b2=>?_
 refine Z2 ?_
 refine aG ?_
 refine I6 H (fun c1 H=>?_) fun c1 H=>?_
 refine Z12 ?_
 refine Z5 ?_
 refine bK (φs':=[fSl aD a0.AF,fSl aJ a0.AB,fSl aB a0.AD,fI a0.AG,fEq (.slice none 0 0),fEq (.slice none 0 0),fEq (.slice none 0 0),aH true]) a1F rfl rfl (has rfl) (has rfl) (aF a1F) (sz rfl) rfl rfl ?_
 refine Z6 ?_
 refine bT (φ:=aL vJ (⟨a0,[],[],[],true⟩:Aj)) (v:=ptr b2) [2,10,3,27,28,30] (fA (aK.cons Ent.rfl (aK.cons Ent.rfl (aK.cons Ent.rfl (aK.cons Ent.rfl (aK.cons cC (aK.cons cC (aK.cons cC (aK.cons Ent.rfl aK.nil))))))))) fz ?_
 refine bQ ?_
 cases H
 refine aE [] (by decide) ?_
 exact To
 refine I6 H (fun c2 H=>?_) fun c2 H=>?_
 refine Z11 ?_
 refine bK (φs':=[fSl aD a0.AF,fSl aJ a0.AB,fSl aB a0.AD,fI a0.AG,fEq (.slice none 0 0),fEq (.slice none 0 0),fEq (.slice none 0 0),aH true]) a1F rfl rfl (has rfl) (has rfl) (aF a1F) (sz rfl) rfl rfl ?_
 refine Z6 ?_
 refine bT (φ:=aL vJ (⟨a0,[],[],[],true⟩:Aj)) (v:=ptr b2) [2,10,3,27,28,30] (fA (aK.cons Ent.rfl (aK.cons Ent.rfl (aK.cons Ent.rfl (aK.cons Ent.rfl (aK.cons cC (aK.cons cC (aK.cons cC (aK.cons Ent.rfl aK.nil))))))))) fz ?_
 refine bQ ?_
 cases H
 refine aE [] (by decide) ?_
 exact To
 refine I6 H (fun c3 H=>?_) fun c3 H=>?_
 refine Z5 ?_
 refine bK (φs':=[fSl aD a0.AF,fSl aJ a0.AB,fSl aB a0.AD,fI a0.AG,fEq (.slice none 0 0),fEq (.slice none 0 0),fEq (.slice none 0 0),aH true]) a1F rfl rfl (has rfl) (has rfl) (aF a1F) (sz rfl) rfl rfl ?_
 refine Z6 ?_
 refine bT (φ:=aL vJ (⟨a0,[],[],[],true⟩:Aj)) (v:=ptr b2) [2,10,3,27,28,30] (fA (aK.cons Ent.rfl (aK.cons Ent.rfl (aK.cons Ent.rfl (aK.cons Ent.rfl (aK.cons cC (aK.cons cC (aK.cons cC (aK.cons Ent.rfl aK.nil))))))))) fz ?_
 refine bQ ?_
 cases H
 refine aE [] (by decide) ?_
 exact To
 revert H;refine B3z fun o1 H Hr1=>?_
 refine aO (fun i=>o1=i) (fun i=>[(1,fEq (ptr b1)),(3,fEq (ptr b2))]) (fun i=>[aA b2 122 [fSl aD a0.AF,fSl aJ a0.AB,fSl aB a0.AD,fI a0.AG,fEq (.slice none 0 0),fEq (.slice none 0 0),fEq (.slice none 0 0),aH i],aA b1 26 [fSl aD a0.AF,fSl aJ a0.AB,fSl aB a0.AD,fI a0.AG]]) ?_ ?_
 refine Z4 ?_
 refine Th (ι:=Int × Bool) (fun i=>kB AA a0 i.1 i.2.1 i.2.2=_) (fun i=>[(1,fEq (ptr b1)),(3,fEq (ptr b2)),(4,fI i.2.1)]) (fun i=>[aA b2 122 [fSl aD a0.AF,fSl aJ a0.AB,fSl aB a0.AD,fI a0.AG,fEq (.slice none 0 0),fEq (.slice none 0 0),fEq (.slice none 0 0),aH i.2.2],aA b1 26 [fSl aD a0.AF,fSl aJ a0.AB,fSl aB a0.AD,fI a0.AG]]) (AA,0,false) H (fun _ h=>nomatch h) ?_
 clear H;rintro k1 ⟨x4,x5⟩ H;dsimp only at H ⊢;rw [kB]at H
 refine aG ?_
 revert H;refine I7z (fun c4 H=>?_) fun c4 H=>?_
 revert H;refine B3z fun o2 H Hr2=>?_
 refine aO (fun i=>o2=i) (fun i=>[(1,fEq (ptr b1)),(3,fEq (ptr b2)),(4,fI x4)]) (fun i=>[aA b2 122 [fSl aD a0.AF,fSl aJ a0.AB,fSl aB a0.AD,fI a0.AG,fEq (.slice none 0 0),fEq (.slice none 0 0),fEq (.slice none 0 0),aH i],aA b1 26 [fSl aD a0.AF,fSl aJ a0.AB,fSl aB a0.AD,fI a0.AG]]) ?_ ?_
 refine Z1 ?_
 revert H;refine cs (fun c5 H=>?_) fun c5 H=>?_
 apply bD (ods:=[_,_,_,_,_,_,_,_,_,_,_,_,_,_,_,_,_,_,_,_,_,_,_,_,_,_,_,_,_,_,_,_,_,_,_]) 35 0 2 bC rfl rfl rfl
 refine ND ?_
 refine M8 ?_
 intros
 refine M8 ?_
 intros
 refine M2 ?_
 intros
 refine cV (od:=odS) rfl (⟨_,_,_,_,rfl,rfl,rfl,nu⟩) rfl (fun _=>?_)
 refine cV (od:=odS) rfl (⟨_,_,_,_,rfl,rfl,rfl,nu⟩) rfl (fun _=>?_)
 refine cV (od:=odS) rfl (⟨_,_,_,_,rfl,rfl,rfl,nu⟩) rfl (fun _=>?_)
 refine cV (od:=odS) rfl (⟨_,_,_,_,rfl,rfl,rfl,nu⟩) rfl (fun _=>?_)
 refine cV (od:=odS) rfl (⟨_,_,_,_,rfl,rfl,rfl,nu⟩) rfl (fun _=>?_)
 refine cV (od:=odS) rfl (⟨_,_,_,_,rfl,rfl,rfl,nu⟩) rfl (fun _=>?_)
 refine cV (od:=odS) rfl (⟨_,_,_,_,rfl,rfl,rfl,nu⟩) rfl (fun _=>?_)
 refine cV (od:=odS) rfl (⟨_,_,_,_,rfl,rfl,rfl,nu⟩) rfl (fun _=>?_)
 refine cV (od:=odS) rfl (⟨_,_,_,_,rfl,rfl,rfl,nu⟩) rfl (fun _=>?_)
 refine cV (od:=odS) rfl (⟨_,_,_,_,rfl,rfl,rfl,nu⟩) rfl (fun _=>?_)
 refine cV (od:=odS) rfl (⟨_,_,_,_,rfl,rfl,rfl,nu⟩) rfl (fun _=>?_)
 refine cV (od:=odS) rfl (⟨_,_,_,_,rfl,rfl,rfl,nu⟩) rfl (fun _=>?_)
 refine M4 ?_
 intros
 refine nO (od:=odC [0] true (dP) [aA b2 122 [fSl aD a0.AF,fSl aJ a0.AB,fSl aB a0.AD,fI a0.AG,fEq (.slice none 0 0),fEq (.slice none 0 0),fEq (.slice none 0 0),aH true]]) (p:=0) (φs':=[fSl aD a0.AF,fSl aJ a0.AB,fSl aB a0.AD,fI a0.AG,fEq (.slice none 0 0),fEq (.slice none 0 0),fEq (.slice none 0 0),aH true]) rfl (fun _=>rfl) (fun _=>rfl) a1F rfl rfl rfl (has rfl) (has rfl) (aF a1F) (sz rfl) rfl rfl (fun _=>?_)
 refine Z4 ?_
 exact Tm (true) (ij H)
 exact fk
 kernel_rfl
 revert H;refine bs fun y1 h1 H=>?_
 revert H;refine bs fun y2 h2 H=>?_
 revert H;refine cs (fun c6 H=>?_) fun c6 H=>?_
 apply bD (ods:=[_,_,_,_,_,_,_,_,_,_,_,_,_,_,_,_,_,_,_,_,_,_,_,_,_,_,_,_,_,_,_,_,_,_,_]) 35 0 2 bC rfl rfl rfl
 refine ND ?_
 refine M8 ?_
 intros
 refine M1 ?_
 intros
 refine Mg c5 (cT rfl hh hh (el rfl) h1) fun _=>?_
 refine M1 ?_
 intros
 refine Nc (aCM _ _ _ h2) fun _=>?_
 refine M6 ?_
 intros
 refine cV (od:=odS) rfl (⟨_,_,_,_,rfl,rfl,rfl,nu⟩) rfl (fun _=>?_)
 refine cV (od:=odS) rfl (⟨_,_,_,_,rfl,rfl,rfl,nu⟩) rfl (fun _=>?_)
 refine cV (od:=odS) rfl (⟨_,_,_,_,rfl,rfl,rfl,nu⟩) rfl (fun _=>?_)
 refine cV (od:=odS) rfl (⟨_,_,_,_,rfl,rfl,rfl,nu⟩) rfl (fun _=>?_)
 refine cV (od:=odS) rfl (⟨_,_,_,_,rfl,rfl,rfl,nu⟩) rfl (fun _=>?_)
 refine cV (od:=odS) rfl (⟨_,_,_,_,rfl,rfl,rfl,nu⟩) rfl (fun _=>?_)
 refine cV (od:=odS) rfl (⟨_,_,_,_,rfl,rfl,rfl,nu⟩) rfl (fun _=>?_)
 refine cV (od:=odS) rfl (⟨_,_,_,_,rfl,rfl,rfl,nu⟩) rfl (fun _=>?_)
 refine cV (od:=odS) rfl (⟨_,_,_,_,rfl,rfl,rfl,nu⟩) rfl (fun _=>?_)
 refine cV (od:=odS) rfl (⟨_,_,_,_,rfl,rfl,rfl,nu⟩) rfl (fun _=>?_)
 refine cV (od:=odS) rfl (⟨_,_,_,_,rfl,rfl,rfl,nu⟩) rfl (fun _=>?_)
 refine cV (od:=odS) rfl (⟨_,_,_,_,rfl,rfl,rfl,nu⟩) rfl (fun _=>?_)
 refine M4 ?_
 intros
 refine nO (od:=odC [0] true (dP) [aA b2 122 [fSl aD a0.AF,fSl aJ a0.AB,fSl aB a0.AD,fI a0.AG,fEq (.slice none 0 0),fEq (.slice none 0 0),fEq (.slice none 0 0),aH true]]) (p:=0) (φs':=[fSl aD a0.AF,fSl aJ a0.AB,fSl aB a0.AD,fI a0.AG,fEq (.slice none 0 0),fEq (.slice none 0 0),fEq (.slice none 0 0),aH true]) rfl (fun _=>rfl) (fun _=>rfl) a1F rfl rfl rfl (has rfl) (has rfl) (aF a1F) (sz rfl) rfl rfl (fun _=>?_)
 refine Z4 ?_
 exact Tm (true) (ij H)
 exact fk
 kernel_rfl
 revert H;refine is (fun c7 H=>?_) fun c7 H=>?_
 revert H;refine bs fun y3 h3 H=>?_
 revert H;refine bs fun z1 h4 H=>?_
 revert H;refine bs fun y4 h5 H=>?_
 apply bD (ods:=[_,_,_,_,_,_,_,_,_,_,_,_,_,_,_,_,_,_,_,_,_,_,_,_,_,_,_,_,_,_,_,_,_,_,_]) 35 0 2 bC rfl rfl rfl
 refine ND ?_
 refine M8 ?_
 intros
 refine M1 ?_
 intros
 refine Mg c5 (cT rfl hh hh (el rfl) h1) fun _=>?_
 refine M1 ?_
 intros
 refine Nc (aCM _ _ _ h2) fun _=>?_
 refine M8 ?_
 intros
 refine M8 ?_
 intros
 refine M1 ?_
 intros
 refine Mg c7 (o_leqS rfl hh hh) fun _=>?_
 refine M4 ?_
 intros
 refine nO (od:=odC [0] true (dP) [aA b2 122 [fSl aD a0.AF,fSl aJ a0.AB,fSl aB a0.AD,fI a0.AG,fEq (.slice none 0 0),fEq (.slice none 0 0),fEq (.slice none 0 0),aH (sle y3 y4)]]) (p:=0) (φs':=[fSl aD a0.AF,fSl aJ a0.AB,fSl aB a0.AD,fI a0.AG,fEq (.slice none 0 0),fEq (.slice none 0 0),fEq (.slice none 0 0),aH (sle y3 y4)]) rfl (fun _=>rfl) (fun _=>rfl) a1F rfl rfl rfl (has rfl) (has rfl) (aF a1F) (sz rfl) rfl rfl (fun _=>?_)
 refine Z4 ?_
 exact Tm (sle y3 y4) (ij H)
 exact fk
 kernel_rfl
 apply bD (ods:=[_,_,_,_,_,_,_,_,_,_,_,_,_,_,_,_,_,_,_,_,_,_,_,_,_,_,_,_,_,_,_,_,_,_,_]) 35 0 2 bC rfl rfl rfl
 refine ND ?_
 refine M8 ?_
 intros
 refine M1 ?_
 intros
 refine Mg c5 (cT rfl hh hh (el rfl) h1) fun _=>?_
 refine M1 ?_
 intros
 refine Nc (aCM _ _ _ h2) fun _=>?_
 refine M8 ?_
 intros
 refine M8 ?_
 intros
 refine M6 ?_
 intros
 refine nO (od:=odC [0] true (dP) [aA b2 122 [fSl aD a0.AF,fSl aJ a0.AB,fSl aB a0.AD,fI a0.AG,fEq (.slice none 0 0),fEq (.slice none 0 0),fEq (.slice none 0 0),aH false]]) (p:=0) (φs':=[fSl aD a0.AF,fSl aJ a0.AB,fSl aB a0.AD,fI a0.AG,fEq (.slice none 0 0),fEq (.slice none 0 0),fEq (.slice none 0 0),aH false]) rfl (fun _=>rfl) (fun _=>rfl) a1F rfl rfl rfl (has rfl) (has rfl) (aF a1F) (sz rfl) rfl rfl (fun _=>?_)
 refine Z4 ?_
 exact Tm (false) (ij H)
 exact fk
 kernel_rfl
 rintro x6 hi;subst o2;replace H:=Hr2;clear Hr2;try dsimp only at H ⊢
 revert H;refine B2z fun z2 h6 H=>?_
 refine Z3 ?_
 exact Tm ((k1,z2,x6)) ⟨H,ls⟩
 refine Z6 ?_
 exact Tm (x5) (ij H)
 rintro x1 hi;subst o1;replace H:=Hr1;clear Hr1;try dsimp only at H ⊢
 revert H;refine bs fun o3 H Hr3=>?_
 refine aO (fun i=>o3=i) (fun i=>[(1,fEq (ptr b1)),(3,fEq (ptr b2))]) (fun i=>[aA b2 122 [fSl aD a0.AF,fSl aJ a0.AB,fSl aB a0.AD,fI a0.AG,fEq (.slice none 0 0),fEq (.slice none 0 0),fEq (.slice none 0 0),aH i],aA b1 26 [fSl aD a0.AF,fSl aJ a0.AB,fSl aB a0.AD,fI a0.AG]]) ?_ ?_
 refine Z4 ?_
 refine Th (ι:=Int × Bool) (fun i=>lR AA a0 i.1 i.2.1 i.2.2=_) (fun i=>[(1,fEq (ptr b1)),(3,fEq (ptr b2)),(5,fI i.2.1)]) (fun i=>[aA b2 122 [fSl aD a0.AF,fSl aJ a0.AB,fSl aB a0.AD,fI a0.AG,fEq (.slice none 0 0),fEq (.slice none 0 0),fEq (.slice none 0 0),aH i.2.2],aA b1 26 [fSl aD a0.AF,fSl aJ a0.AB,fSl aB a0.AD,fI a0.AG]]) (AA,0,x1) H (fun _ h=>nomatch h) ?_
 clear H;rintro k2 ⟨x10,x11⟩ H;dsimp only at H ⊢;rw [lR]at H
 refine aG ?_
 revert H;refine I7z (fun c8 H=>?_) fun c8 H=>?_
 revert H;refine B3z fun o4 H Hr4=>?_
 refine aO (fun i=>o4=i) (fun i=>[(1,fEq (ptr b1)),(3,fEq (ptr b2)),(5,fI x10)]) (fun i=>[aA b2 122 [fSl aD a0.AF,fSl aJ a0.AB,fSl aB a0.AD,fI a0.AG,fEq (.slice none 0 0),fEq (.slice none 0 0),fEq (.slice none 0 0),aH i],aA b1 26 [fSl aD a0.AF,fSl aJ a0.AB,fSl aB a0.AD,fI a0.AG]]) ?_ ?_
 refine Z8 ?_
 revert H;refine cs (fun c9 H=>?_) fun c9 H=>?_
 refine Z10 ?_
 refine bK (φs':=[fSl aD a0.AF,fSl aJ a0.AB,fSl aB a0.AD,fI a0.AG,fEq (.slice none 0 0),fEq (.slice none 0 0),fEq (.slice none 0 0),aH true]) a1F rfl rfl (has rfl) (has rfl) (aF a1F) (sz rfl) rfl rfl ?_
 refine Z3 ?_
 exact Tm (true) (ij H)
 revert H;refine B3z fun y5 h7 H=>?_
 revert H;refine B2z fun y6 h8 H=>?_
 refine Tc (aIT _ _ _ h8) ?_
 refine Z4 ?_
 refine bK (φs':=[fSl aD a0.AF,fSl aJ a0.AB,fSl aB a0.AD,fI a0.AG,fEq (.slice none 0 0),fEq (.slice none 0 0),fEq (.slice none 0 0),aH (!y6)]) a1F rfl rfl (has rfl) (has rfl) (aF a1F) (sz rfl) rfl rfl ?_
 refine Z3 ?_
 exact Tm (!y6) (ij H)
 rintro x12 hi;subst o4;replace H:=Hr4;clear Hr4;try dsimp only at H ⊢
 revert H;refine B2z fun z3 h9 H=>?_
 refine Z3 ?_
 exact Tm ((k2,z3,x12)) ⟨H,ls⟩
 refine Z6 ?_
 exact Tm (x11) (ij H)
 rintro x7 hi;subst o3;replace H:=Hr3;clear Hr3;try dsimp only at H ⊢
 refine aG ?_
 refine bz H fun y7 h10 H=>?_
 refine bz H fun y8 h11 H=>?_
 refine bz H fun y9 h12 H=>?_
 apply bD (ods:=[_,_,_,_,_,_,_,_,_,_,_,_,_,_,_,_,_,_,_,_,_,_,_,_]) 24 3 5 bC rfl rfl rfl
 refine ND ?_
 refine M6 ?_
 intros
 refine Mn 2 (fun b3=> .slice (some ⟨b3,0,none⟩) y7.length y7.length) (fun b3=>aC (.slice (some ⟨b3,0,none⟩) y7.length y7.length) 3 tI y7) rfl (kH (t:=tI) (z:=0) rfl (has rfl) (et rfl) rfl pE rfl h10) (fun b3 u1=>?_)
 refine M3 ?_
 intros
 refine Mn 3 (fun b4=> .slice (some ⟨b4,0,none⟩) y8.length y8.length) (fun b4=>aC (.slice (some ⟨b4,0,none⟩) y8.length y8.length) 3 tI y8) rfl (kH (t:=tI) (z:=0) rfl (has rfl) (et rfl) rfl pE rfl h11) (fun b4 u2=>?_)
 refine M3 ?_
 intros
 refine Mn 4 (fun b5=> .slice (some ⟨b5,0,none⟩) y9.length y9.length) (fun b5=>aC (.slice (some ⟨b5,0,none⟩) y9.length y9.length) 3 tI y9) rfl (kH (t:=tI) (z:=0) rfl (has rfl) (et rfl) rfl pE rfl h12) (fun b5 u3=>?_)
 refine M2 ?_
 intros
 refine nO (od:=od1 6 [0] true (fun b3 _=>dP) (fun b3 _=>[aA b2 122 [fSl aD a0.AF,fSl aJ a0.AB,fSl aB a0.AD,fI a0.AG,fEq (.slice (some ⟨b3,0,none⟩) y7.length y7.length),fEq (.slice none 0 0),fEq (.slice none 0 0),aH x7]])) (p:=0) (φs':=[fSl aD a0.AF,fSl aJ a0.AB,fSl aB a0.AD,fI a0.AG,fEq (.slice (some ⟨b3,0,none⟩) y7.length y7.length),fEq (.slice none 0 0),fEq (.slice none 0 0),aH x7]) rfl (fun _=>rfl) (fun _=>rfl) a1F rfl rfl rfl (has rfl) (has rfl) (aF a1F) (sz rfl) rfl rfl (fun _=>?_)
 refine M2 ?_
 intros
 refine nO (od:=od2 6 10 [0] true (fun b3 _ b4 _=>dP) (fun b3 _ b4 _=>[aA b2 122 [fSl aD a0.AF,fSl aJ a0.AB,fSl aB a0.AD,fI a0.AG,fEq (.slice (some ⟨b3,0,none⟩) y7.length y7.length),fEq (.slice (some ⟨b4,0,none⟩) y8.length y8.length),fEq (.slice none 0 0),aH x7]])) (p:=0) (φs':=[fSl aD a0.AF,fSl aJ a0.AB,fSl aB a0.AD,fI a0.AG,fEq (.slice (some ⟨b3,0,none⟩) y7.length y7.length),fEq (.slice (some ⟨b4,0,none⟩) y8.length y8.length),fEq (.slice none 0 0),aH x7]) rfl (fun _=>rfl) (fun _=>rfl) a1F rfl rfl rfl (has rfl) (has rfl) (aF a1F) (sz rfl) rfl rfl (fun _=>?_)
 refine M2 ?_
 intros
 refine nO (od:=od3 6 10 14 [0] true (fun b3 _ b4 _ b5 _=>dP) (fun b3 _ b4 _ b5 _=>[aA b2 122 [fSl aD a0.AF,fSl aJ a0.AB,fSl aB a0.AD,fI a0.AG,fEq (.slice (some ⟨b3,0,none⟩) y7.length y7.length),fEq (.slice (some ⟨b4,0,none⟩) y8.length y8.length),fEq (.slice (some ⟨b5,0,none⟩) y9.length y9.length),aH x7]])) (p:=0) (φs':=[fSl aD a0.AF,fSl aJ a0.AB,fSl aB a0.AD,fI a0.AG,fEq (.slice (some ⟨b3,0,none⟩) y7.length y7.length),fEq (.slice (some ⟨b4,0,none⟩) y8.length y8.length),fEq (.slice (some ⟨b5,0,none⟩) y9.length y9.length),aH x7]) rfl (fun _=>rfl) (fun _=>rfl) a1F rfl rfl rfl (has rfl) (has rfl) (aF a1F) (sz rfl) rfl rfl (fun _=>?_)
 refine Z1 ?_
 generalize (Value.slice (some ⟨b3,0,none⟩) _ _)=v1
 refine rc 2 fun _=>?_
 generalize (Value.slice (some ⟨b4,0,none⟩) _ _)=v2
 refine rc 3 fun _=>?_
 generalize (Value.slice (some ⟨b5,0,none⟩) _ _)=v3
 refine rc 4 fun _=>?_
 refine Z1 ?_
 refine aG ?_
 refine Z6 ?_
 refine cz H (fun c10 H=>?_) fun c10 H=>?_
 refine Z6 ?_
 refine dK ?_
 refine bT (φ:=fSl tI y7) (v:=v1) [101] cM fz ?_
 refine dO (φs':=[fSl aD a0.AF,fSl aJ a0.AB,fSl aB a0.AD,fI a0.AG,fSl tI y7,fEq v2,fEq v3,aH x7]) (i:=4) rfl rfl ?_
 refine bQ ?_
 refine dK ?_
 refine bT (φ:=fSl tI y8) (v:=v2) [105] cM fz ?_
 refine dO (φs':=[fSl aD a0.AF,fSl aJ a0.AB,fSl aB a0.AD,fI a0.AG,fSl tI y7,fSl tI y8,fEq v3,aH x7]) (i:=5) rfl rfl ?_
 refine bQ ?_
 refine dK ?_
 refine bT (φ:=fSl tI y9) (v:=v3) [109] cM fz ?_
 refine dO (φs':=[fSl aD a0.AF,fSl aJ a0.AB,fSl aB a0.AD,fI a0.AG,fSl tI y7,fSl tI y8,fSl tI y9,aH x7]) (i:=6) rfl rfl ?_
 refine bQ ?_
 refine bT (φ:=aL vJ (⟨a0,y7,y8,y9,x7⟩:Aj)) (v:=ptr b2) [3,95,96,97,110,112,114,116,117,120,2] (fA aK.rfl) fz ?_
 refine bQ ?_
 cases H
 refine aE [] (by decide) ?_
 exact To
 refine Z10 ?_
 refine bG ?_
 refine bG ?_
 refine bG ?_
 refine cZ ?_
 refine fZ ?_
 refine bz H fun y10 h13 H=>?_
 refine Tc (aKM _ _ _ _ _ _ h13) ?_
 refine tY (fun v4 v5 v6=>?_)
 refine rc 1 fun _=>?_
 refine rc 2 fun _=>?_
 refine rc 3 fun _=>?_
 revert H;refine B1z fun o5 H Hr5=>?_
 refine aO (fun i=>o5=i) (fun i=>[(3,fEq (ptr b2))]) (fun i=>[aA b2 122 [fSl aD y10.p.AF,fSl aJ y10.p.AB,fSl aB y10.p.AD,fI y10.p.AG,fEq v4,fEq v5,fEq v6,aH i],aA b1 26 [fSl aD a0.AF,fSl aJ a0.AB,fSl aB a0.AD,fI a0.AG],aC v4 3 tI y10.Aa,aC v5 3 tI y10.Am,aC v6 3 tI y10.Al]) ?_ ?_
 refine Z4 ?_
 refine aE [0,4,1,2,3] (by decide) ?_
 refine Th (ι:=Int × Bool) (fun i=>lM y10 i.1 i.2.1 i.2.2=_) (fun i=>[(3,fEq (ptr b2)),(6,fI i.2.1)]) (fun i=>[aA b2 122 [fSl aD y10.p.AF,fSl aJ y10.p.AB,fSl aB y10.p.AD,fI y10.p.AG,fEq v4,fEq v5,fEq v6,aH i.2.2],aA b1 26 [fSl aD a0.AF,fSl aJ a0.AB,fSl aB a0.AD,fI a0.AG],aC v4 3 tI y10.Aa,aC v5 3 tI y10.Am,aC v6 3 tI y10.Al]) (AA,0,y10.bad) H (fun _ h=>nomatch h) ?_
 clear H;rintro k3 ⟨x16,x17⟩ H;dsimp only at H ⊢;rw [lM]at H
 refine aG ?_
 revert H;refine I9z (fun c11 H=>?_) fun c11 H=>?_
 revert H;refine B3z fun o6 H Hr6=>?_
 refine aO (fun i=>o6=i) (fun i=>[(3,fEq (ptr b2)),(6,fI x16)]) (fun i=>[aA b2 122 [fSl aD y10.p.AF,fSl aJ y10.p.AB,fSl aB y10.p.AD,fI y10.p.AG,fEq v4,fEq v5,fEq v6,aH i],aA b1 26 [fSl aD a0.AF,fSl aJ a0.AB,fSl aB a0.AD,fI a0.AG],aC v4 3 tI y10.Aa,aC v5 3 tI y10.Am,aC v6 3 tI y10.Al]) ?_ ?_
 refine Z8 ?_
 revert H;refine cs (fun c12 H=>?_) fun c12 H=>?_
 refine Z11 ?_
 refine bK (φs':=[fSl aD y10.p.AF,fSl aJ y10.p.AB,fSl aB y10.p.AD,fI y10.p.AG,fEq v4,fEq v5,fEq v6,aH true]) a1F rfl rfl (has rfl) (has rfl) (aF a1F) (sz rfl) rfl rfl ?_
 refine Z3 ?_
 exact Tm (true) (ij H)
 revert H;refine B5z fun y11 h14 H=>?_
 refine Z1 ?_
 refine Yh 3 rfl c12 (iA rfl rfl hh (sc rfl) (dN h14) rfl) ?_
 refine Z4 ?_
 refine bK (φs':=[fSl aD y10.p.AF,fSl aJ y10.p.AB,fSl aB y10.p.AD,fI y10.p.AG,fEq v4,fEq v5,fEq v6,aH (decide (y11=0))]) a1F rfl rfl (has rfl) (has rfl) (aF a1F) (sz rfl) rfl rfl ?_
 refine Z3 ?_
 exact Tm (decide (y11=0)) (ij H)
 rintro x18 hi;subst o6;replace H:=Hr6;clear Hr6;try dsimp only at H ⊢
 revert H;refine B2z fun z4 h15 H=>?_
 refine Z3 ?_
 exact Tm ((k3,z4,x18)) ⟨H,ls⟩
 refine Z6 ?_
 exact Tm (x17) (ij H)
 rintro x13 hi;subst o5;replace H:=Hr5;clear Hr5;try dsimp only at H ⊢
 revert H;refine bs fun o7 H Hr7=>?_
 refine aO (fun i=>o7=i) (fun i=>[(3,fEq (ptr b2))]) (fun i=>[aA b2 122 [fSl aD y10.p.AF,fSl aJ y10.p.AB,fSl aB y10.p.AD,fI y10.p.AG,fEq v4,fEq v5,fEq v6,aH i],aA b1 26 [fSl aD a0.AF,fSl aJ a0.AB,fSl aB a0.AD,fI a0.AG],aC v4 3 tI y10.Aa,aC v5 3 tI y10.Am,aC v6 3 tI y10.Al]) ?_ ?_
 refine Z4 ?_
 refine Th (ι:=Int × Bool) (fun i=>lO y10 i.1 i.2.1 i.2.2=_) (fun i=>[(3,fEq (ptr b2)),(7,fI i.2.1)]) (fun i=>[aA b2 122 [fSl aD y10.p.AF,fSl aJ y10.p.AB,fSl aB y10.p.AD,fI y10.p.AG,fEq v4,fEq v5,fEq v6,aH i.2.2],aA b1 26 [fSl aD a0.AF,fSl aJ a0.AB,fSl aB a0.AD,fI a0.AG],aC v4 3 tI y10.Aa,aC v5 3 tI y10.Am,aC v6 3 tI y10.Al]) (AA,0,x13) H (fun _ h=>nomatch h) ?_
 clear H;rintro k4 ⟨x22,x23⟩ H;dsimp only at H ⊢;rw [lO]at H
 refine aG ?_
 revert H;refine I9z (fun c13 H=>?_) fun c13 H=>?_
 revert H;refine B3z fun o8 H Hr8=>?_
 refine aO (fun i=>o8=i) (fun i=>[(3,fEq (ptr b2)),(7,fI x22)]) (fun i=>[aA b2 122 [fSl aD y10.p.AF,fSl aJ y10.p.AB,fSl aB y10.p.AD,fI y10.p.AG,fEq v4,fEq v5,fEq v6,aH i],aA b1 26 [fSl aD a0.AF,fSl aJ a0.AB,fSl aB a0.AD,fI a0.AG],aC v4 3 tI y10.Aa,aC v5 3 tI y10.Am,aC v6 3 tI y10.Al]) ?_ ?_
 refine Z8 ?_
 revert H;refine cs (fun c14 H=>?_) fun c14 H=>?_
 refine Z11 ?_
 refine bK (φs':=[fSl aD y10.p.AF,fSl aJ y10.p.AB,fSl aB y10.p.AD,fI y10.p.AG,fEq v4,fEq v5,fEq v6,aH true]) a1F rfl rfl (has rfl) (has rfl) (aF a1F) (sz rfl) rfl rfl ?_
 refine Z3 ?_
 exact Tm (true) (ij H)
 revert H;refine B5z fun y12 h16 H=>?_
 refine Z1 ?_
 refine Yh 4 rfl c14 (iA rfl rfl hh (sc rfl) (dN h16) rfl) ?_
 refine Z4 ?_
 refine bK (φs':=[fSl aD y10.p.AF,fSl aJ y10.p.AB,fSl aB y10.p.AD,fI y10.p.AG,fEq v4,fEq v5,fEq v6,aH (decide (y12=0))]) a1F rfl rfl (has rfl) (has rfl) (aF a1F) (sz rfl) rfl rfl ?_
 refine Z3 ?_
 exact Tm (decide (y12=0)) (ij H)
 rintro x24 hi;subst o8;replace H:=Hr8;clear Hr8;try dsimp only at H ⊢
 revert H;refine B2z fun z5 h17 H=>?_
 refine Z3 ?_
 exact Tm ((k4,z5,x24)) ⟨H,ls⟩
 refine Z6 ?_
 exact Tm (x23) (ij H)
 rintro x19 hi;subst o7;replace H:=Hr7;clear Hr7;try dsimp only at H ⊢
 refine Z5 ?_
 refine dK ?_
 refine bT (φ:=fSl tI y10.Aa) (v:=v4) [] cM (fun _ h=>nomatch h) ?_
 refine dO (φs':=[fSl aD y10.p.AF,fSl aJ y10.p.AB,fSl aB y10.p.AD,fI y10.p.AG,fSl tI y10.Aa,fEq v5,fEq v6,aH x19]) (i:=4) rfl rfl ?_
 refine bQ ?_
 refine dK ?_
 refine bT (φ:=fSl tI y10.Am) (v:=v5) [] cM (fun _ h=>nomatch h) ?_
 refine dO (φs':=[fSl aD y10.p.AF,fSl aJ y10.p.AB,fSl aB y10.p.AD,fI y10.p.AG,fSl tI y10.Aa,fSl tI y10.Am,fEq v6,aH x19]) (i:=5) rfl rfl ?_
 refine bQ ?_
 refine dK ?_
 refine bT (φ:=fSl tI y10.Al) (v:=v6) [] cM (fun _ h=>nomatch h) ?_
 refine dO (φs':=[fSl aD y10.p.AF,fSl aJ y10.p.AB,fSl aB y10.p.AD,fI y10.p.AG,fSl tI y10.Aa,fSl tI y10.Am,fSl tI y10.Al,aH x19]) (i:=6) rfl rfl ?_
 refine bQ ?_
 refine bT (φ:=aL vJ (⟨y10.p,y10.Aa,y10.Am,y10.Al,x19⟩:Aj)) (v:=ptr b2) [3,180,2] (fA aK.rfl) fz ?_
 refine bQ ?_
 cases H
 refine aE [] (by decide) ?_
 exact To
 exact fk
 kernel_rfl
def vW (AA:Nat) (a0:AJ):Option (Int):=
 (uY AA (⟨a0.AF,a0.AB,a0.AD,a0.AG⟩:AJ)).bind fun y1=>
 bif y1.bad then
  some 2
 else
  some 0
theorem aIh (AA:Nat)  (a0:AJ) (r:Int) (H:vW AA a0=some r):FnS Tryz.prog 16 [fSt dQ a0] [] (fI r) (fun _=>[]):=by
 unfold vW at H
 refine bB Tryz.func16 rfl Tryz.ntmps16 rfl (fun β=>?_)
 refine Z1 ?_
 refine Tn (bU rfl hh bM) fun b1=>?_
 refine Z2 ?_
 refine aG ?_
 refine B2 H fun y1 h1 H=>?_
 refine Tc (aGt _ _ _ h1) ?_
 refine Z4 ?_
 refine cz H (fun c1 H=>?_) fun c1 H=>?_
 refine Z5 ?_
 cases H
 refine aE [] (by decide) ?_
 exact To
 refine Z7 ?_
 cases H
 refine aE [] (by decide) ?_
 exact To
def sN (a0:List AN) (x5:Int):Nat->Int->(List Ah)->Option (List Ah)
| 0,_,_=>none
| k+1,x10,x11=>
 (idx a0 x5).bind fun y3=>
 if x10<(y3.AQ.length:Int)then
  (idx a0 x5).bind fun y4=>
  (idx y4.AQ x10).bind fun y5=>
  (cQ ([]++y5.Ad)).bind fun z3=>
  (cQ (x11++[(⟨y5.At,z3,y5.AW⟩:Ah)])).bind fun z4=>
  (chk (x10+1)).bind fun z5=>
  sN a0 x5 k z5 z4
 else
  some x11
def sQ (AA:Nat) (a0:List AN):Nat->(List AN)->Int->Option (List AN)
| 0,_,_=>none
| k+1,x4,x5=>
 if x5<(a0.length:Int)then
  ((idx a0 x5).bind fun y1=>
  (cQ ([]++y1.AT)).bind fun z1=>
  (idx a0 x5).bind fun y2=>
  (cQ ([]++y2.AS)).bind fun z2=>
  (sN a0 x5 AA 0 []).bind fun x7=>
  (cQ (x4++[(⟨z1,z2,x7⟩:AN)])).bind fun z6=>
  some z6).bind fun x6=>
  (chk (x5+1)).bind fun z7=>
  sQ AA a0 k x6 z7
 else
  some x4
def zP (AA:Nat) (a0:List AN):Option (List AN):=
 (sQ AA a0 AA [] 0).bind fun x1=>
 some x1
theorem aKd (AA:Nat)  (a0:List AN) (r:List AN) (H:zP AA a0=some r):FnS Tryz.prog 35 [fSl aB a0] [] (fSl aB r) (fun _=>[]):=by
 unfold zP at H
 refine bB Tryz.func35 rfl Tryz.ntmps35 rfl (fun β=>?_)
 revert H;refine B6z fun o1 H Hr1=>?_
 refine aO (ι:=List AN × Value) (fun i=>o1=i.1) (fun i=>[(3,fEq i.2)]) (fun i=>[aC i.2 77 aB i.1]) ?_ ?_
 refine Z4 ?_
 refine fH aB 77 ?_
 refine Th (ι:=List AN × Int × Value) (fun i=>sQ AA a0 i.1 i.2.1 i.2.2.1=_) (fun i=>[(0,fSl aB a0),(3,fEq i.2.2.2),(4,fI i.2.2.1)]) (fun i=>[aC i.2.2.2 77 aB i.2.1]) (AA,[],0,(.slice none 0 0)) H (fun _ h=>nomatch h) ?_
 clear H;rintro k1 ⟨x4,x5,v3⟩ H;dsimp only at H ⊢;rw [sQ]at H
 refine rc 0 fun _=>?_
 refine aG ?_
 revert H;refine I6z (fun c1 H=>?_) fun c1 H=>?_
 revert H;refine B3z fun o2 H Hr2=>?_
 refine aO (ι:=List AN × Value) (fun i=>o2=i.1) (fun i=>[(0,fSl aB a0),(4,fI x5),(3,fEq i.2)]) (fun i=>[aC i.2 77 aB i.1]) ?_ ?_
 refine Z1 ?_
 refine aG ?_
 revert H;refine bs fun y1 h1 H=>?_
 revert H;refine bs fun z1 h2 H=>?_
 revert H;refine bs fun y2 h3 H=>?_
 revert H;refine bs fun z2 h4 H=>?_
 apply bD (ods:=[_,_,_,_,_,_,_,_,_,_,_,_,_,_,_]) 15 1 2 bC rfl rfl rfl
 refine ND ?_
 refine M2 ?_
 intros
 refine My (cT rfl hh hh (el rfl) h1) fun _=>?_
 refine M2 ?_
 intros
 refine aAt (od:=odC [] true (fSl aZ z1) []) rfl (fun _=>rfl) a1F rfl rfl (has rfl) (has rfl) (et rfl) rfl h2 (fun _=>?_)
 refine M5 ?_
 intros
 refine aAt (od:=odC [] true (fSl aU z2) []) rfl (fun _=>rfl) a1F rfl rfl (has rfl) (has rfl) (et rfl) rfl h4 (fun _=>?_)
 refine My (gL (ψs:=[fSl aZ z1,fSl aU z2,fEq (.slice none 0 0)]) rfl aGU rfl (bW.cons (has rfl) (cL (aS)) (bW.cons (has rfl) (cL (aS)) bW.nil)) rfl) fun _=>?_
 refine Mn 1 (fun b1=>ptr b1) (fun b1=>aA b1 77 [fEq (.slice none 0 0),fEq (.slice none 0 0),fEq (.slice none 0 0)]) rfl (cB rfl oP rfl) (fun b1 u1=>?_)
 refine mS (od:=od1 13 [1] true (fun b1 _=>dP) (fun b1 _=>[aA b1 77 [fSl aZ z1,fSl aU z2,fEq (.slice none 0 0)]])) (p:=1) (φs':=[fSl aZ z1,fSl aU z2,fEq (.slice none 0 0)]) rfl (fun _=>rfl) (fun _=>rfl) a1F rfl rfl rfl (has rfl) (has rfl) (aI (aS) (aI (aS) (aI (aF a1F) bN))) (sz rfl) rfl rfl rfl (fun _=>?_)
 revert H;refine B2z fun o3 H Hr3=>?_
 refine aO (ι:=List Ah × Value) (fun i=>o3=i.1) (fun i=>[(0,fSl aB a0),(3,fEq v3),(4,fI x5),(5,fEq (ptr b1))]) (fun i=>[aA b1 77 [fSl aZ z1,fSl aU z2,fEq i.2],aC v3 77 aB x4,aC i.2 81 aY i.1]) ?_ ?_
 refine Z4 ?_
 refine fH aY 81 ?_
 refine aE [2,1,0] (by decide) ?_
 refine Th (ι:=Int × List Ah × Value) (fun i=>sN a0 x5 i.1 i.2.1 i.2.2.1=_) (fun i=>[(0,fSl aB a0),(3,fEq v3),(4,fI x5),(5,fEq (ptr b1)),(6,fI i.2.1)]) (fun i=>[aA b1 77 [fSl aZ z1,fSl aU z2,fEq i.2.2.2],aC v3 77 aB x4,aC i.2.2.2 81 aY i.2.2.1]) (AA,0,[],(.slice none 0 0)) H (fun _ h=>nomatch h) ?_
 clear H;rintro k2 ⟨x10,x11,v7⟩ H;dsimp only at H ⊢;rw [sN]at H
 refine rc 2 fun _=>?_
 refine aG ?_
 revert H;refine B4z fun y3 h5 H=>?_
 refine Yy (cT rfl hh hh (el rfl) h5) ?_
 revert H;refine I5z (fun c2 H=>?_) fun c2 H=>?_
 refine Z3 ?_
 refine aG ?_
 revert H;refine B4z fun y4 h6 H=>?_
 revert H;refine B4z fun y5 h7 H=>?_
 refine Z2 ?_
 refine Tn (cB rfl pM rfl) fun b2=>?_
 refine cO (φs':=[fI y5.At,fSl tI y5.Ad,fI y5.AW]) a1F rfl rfl (has rfl) (has rfl) (aI (aF a1F) (aI (aS) (aI (aF a1F) bN))) (sz rfl) rfl rfl rfl ?_
 refine Z4 ?_
 refine fH tI 3 ?_
 revert H;refine bs fun z3 h8 H=>?_
 refine iX (ys:=y5.Ad) a1F rfl rfl rfl (has rfl) (has rfl) (et rfl) rfl h8 (fun v8=>?_)
 refine rc 0 fun hc_v8=>?_
 refine Z1 ?_
 refine bH ?_
 refine bK (φs':=[fI y5.At,fEq v8,fI y5.AW]) a1F rfl rfl (has rfl) (has rfl) (aF hc_v8) (sz rfl) rfl rfl ?_
 refine Z5 ?_
 refine bH ?_
 refine bT (φ:=fSl tI z3) (v:=v8) [47] cM fz ?_
 refine dO (φs':=[fI y5.At,fSl tI z3,fI y5.AW]) (i:=1) rfl rfl ?_
 refine lN 51 (ψ:=eC [fI y5.At,fEq v8,fI y5.AW]) rfl (lA (i:=1) (φs:=[fI y5.At,fEq v8,fI y5.AW]) (φs':=[fI y5.At,fSl tI z3,fI y5.AW]) rfl rfl) ?_
 refine bQ ?_
 refine Tn (eQ (t:=aY) (xs:=[(⟨y5.At,z3,y5.AW⟩:Ah)]) rfl (et rfl) (bY.cons rfl hh bM bY.nil) rfl rfl rfl) fun b3=>?_
 generalize (Value.slice (some ⟨b3,0,none⟩) _ _)=v9
 refine rc 0 fun _=>?_
 revert H;refine bs fun z4 h9 H=>?_
 refine bG ?_
 refine bH ?_
 refine gH a1F rfl rfl rfl (has rfl) (has rfl) (et rfl) rfl h9 (fun v10=>?_)
 refine rc 0 fun hc_v10=>?_
 refine Z1 ?_
 refine dK ?_
 refine bK (φs':=[fSl aZ z1,fSl aU z2,fEq v10]) a1F rfl rfl (has rfl) (has rfl) (aF hc_v10) (sz rfl) rfl rfl ?_
 revert H;refine B5z fun z5 h10 H=>?_
 refine Z3 ?_
 refine aE [0,3,1] (by decide) ?_
 exact Tm ((k2,z5,z4,v10)) ⟨H,ls⟩
 refine Z6 ?_
 exact Tm ((x11,v7)) (ij H)
 rintro⟨x7,v5⟩ hi;subst o3;replace H:=Hr3;clear Hr3;try dsimp only at H ⊢
 refine rc 2 fun _=>?_
 refine Z3 ?_
 refine dK ?_
 refine bT (φ:=fSl aY x7) (v:=v5) [] cM (fun _ h=>nomatch h) ?_
 refine dO (φs':=[fSl aZ z1,fSl aU z2,fSl aY x7]) (i:=2) rfl rfl ?_
 refine lN 56 (ψ:=eC [fSl aZ z1,fSl aU z2,fEq v5]) rfl (lA (i:=2) (φs:=[fSl aZ z1,fSl aU z2,fEq v5]) (φs':=[fSl aZ z1,fSl aU z2,fSl aY x7]) rfl rfl) ?_
 refine bQ ?_
 refine Tn (eQ (t:=aB) (xs:=[(⟨z1,z2,x7⟩:AN)]) rfl (et rfl) (bY.cons rfl hh bM bY.nil) rfl rfl rfl) fun b4=>?_
 generalize (Value.slice (some ⟨b4,0,none⟩) _ _)=v11
 refine rc 0 fun _=>?_
 revert H;refine bs fun z6 h11 H=>?_
 refine dK ?_
 refine bH ?_
 refine gH a1F rfl rfl rfl (has rfl) (has rfl) (et rfl) rfl h11 (fun v12=>?_)
 refine rc 0 fun _=>?_
 refine Z4 ?_
 refine aE [0] (by decide) ?_
 exact Tm ((z6,v12)) (ij H)
 exact fk
 kernel_rfl
 rintro⟨x6,v4⟩ hi;subst o2;replace H:=Hr2;clear Hr2;try dsimp only at H ⊢
 refine rc 0 fun _=>?_
 revert H;refine B2z fun z7 h12 H=>?_
 refine Z3 ?_
 exact Tm ((k1,x6,z7,v4)) ⟨H,ls⟩
 refine Z6 ?_
 exact Tm ((x4,v3)) (ij H)
 rintro⟨x1,v1⟩ hi;subst o1;replace H:=Hr1;clear Hr1;try dsimp only at H ⊢
 refine rc 0 fun _=>?_
 refine Z5 ?_
 refine bT (φ:=fSl aB x1) (v:=v1) [3,59,2] cM fz ?_
 refine bQ ?_
 cases H
 exact To
open Go.SX Go.SW Go.Dt
def uM (a0:List Int) (a1:Int):Nat->Int->Option ((Unit) ⊕ (Bool))
| 0,_=>none
| k+1,x2=>
 if x2<(a0.length:Int)then
  ((idx a0 x2).bind fun y1=>
  if y1<0 then
   ((some false).bind fun r=>some (Sum.inr r)).bind fun r=>some (Sum.inr r)
  else
   (idx a0 x2).bind fun y2=>
   if a1<=y2 then
    ((some false).bind fun r=>some (Sum.inr r)).bind fun r=>some (Sum.inr r)
   else
    if 0<x2 then
     (idx a0 x2).bind fun y3=>
     (chk (x2 - 1)).bind fun z1=>
     (idx a0 z1).bind fun y4=>
     if y3<=y4 then
      ((some false).bind fun r=>some (Sum.inr r)).bind fun r=>some (Sum.inr r)
     else
      some (Sum.inl ())
    else
     some (Sum.inl ())).bind fun o=>match o with
  | Sum.inr r=>some r
  | Sum.inl _=>
  (chk (x2+1)).bind fun z2=>
  uM a0 a1 k z2
 else
  some (Sum.inl ())
def vO (AA:Nat) (a0:List Int) (a1:Int):Option (Bool):=
 (uM a0 a1 AA 0).bind fun o=>match o with
 | Sum.inr r=>some r
 | Sum.inl _=>
 some true
theorem aEd (AA:Nat)  (a0:List Int) (a1:Int) (r:Bool) (H:vO AA a0 a1=some r):FnS Tryz.prog 79 [fSl tI a0,fI a1] [] (aH r) (fun _=>[]):=by
 unfold vO at H
 refine bB Tryz.func79 rfl Tryz.ntmps79 rfl (fun β=>?_)
 revert H;refine B3z fun o1 H Hr1=>?_
 refine aO (ι:=Unit) (fun i=>o1=Sum.inl ()) (fun i=>[]) (fun i=>[]) ?_ ?_
 refine Z4 ?_
 refine Th (ι:=Int) (fun i=>uM a0 a1 i.1 i.2=_) (fun i=>[(0,fSl tI a0),(1,fI a1),(5,fI i.2)]) (fun i=>[]) (AA,0) H (fun _ h=>nomatch h) ?_
 clear H;rintro k1 x2 H;dsimp only at H ⊢;rw [uM]at H
 refine aG ?_
 revert H;refine I6z (fun c1 H=>?_) fun c1 H=>?_
 revert H;refine B3z fun o2 H Hr2=>?_
 refine aO (ι:=Unit) (fun i=>o2=Sum.inl ()) (fun i=>[(0,fSl tI a0),(1,fI a1),(5,fI x2)]) (fun i=>[]) ?_ ?_
 refine Z1 ?_
 refine aG ?_
 revert H;refine bs fun y1 h1 H=>?_
 revert H;refine is (fun c2 H=>?_) fun c2 H=>?_
 apply bD (ods:=[_,_,_,_,_,_,_,_,_,_,_,_,_,_,_,_,_,_,_,_,_,_,_,_,_,_,_,_,_]) 29 0 0 bC rfl rfl rfl
 refine ND ?_
 refine M2 ?_
 intros
 refine My (cT rfl hh hh (el rfl) h1) fun _=>?_
 refine M8 ?_
 intros
 refine M6 ?_
 intros
 refine cV (od:=odS) rfl (⟨_,_,_,_,rfl,rfl,rfl,nu⟩) rfl (fun _=>?_)
 refine cV (od:=odS) rfl (⟨_,_,_,_,rfl,rfl,rfl,nu⟩) rfl (fun _=>?_)
 refine cV (od:=odS) rfl (⟨_,_,_,_,rfl,rfl,rfl,nu⟩) rfl (fun _=>?_)
 refine cV (od:=odS) rfl (⟨_,_,_,_,rfl,rfl,rfl,nu⟩) rfl (fun _=>?_)
 refine cV (od:=odS) rfl (⟨_,_,_,_,rfl,rfl,rfl,nu⟩) rfl (fun _=>?_)
 refine cV (od:=odS) rfl (⟨_,_,_,_,rfl,rfl,rfl,nu⟩) rfl (fun _=>?_)
 refine cV (od:=odS) rfl (⟨_,_,_,_,rfl,rfl,rfl,nu⟩) rfl (fun _=>?_)
 refine cV (od:=odS) rfl (⟨_,_,_,_,rfl,rfl,rfl,nu⟩) rfl (fun _=>?_)
 refine cV (od:=odS) rfl (⟨_,_,_,_,rfl,rfl,rfl,nu⟩) rfl (fun _=>?_)
 refine cV (od:=odS) rfl (⟨_,_,_,_,rfl,rfl,rfl,nu⟩) rfl (fun _=>?_)
 refine M2 ?_
 intros
 revert H;refine B9z fun r1 H e1=>?_
 cases e1;cases Hr2
 revert H;refine B3z fun r2 H e2=>?_
 cases e2;cases Hr1
 cases H
 exact To
 exact fk
 kernel_rfl
 revert H;refine bs fun y2 h2 H=>?_
 revert H;refine is (fun c3 H=>?_) fun c3 H=>?_
 apply bD (ods:=[_,_,_,_,_,_,_,_,_,_,_,_,_,_,_,_,_,_,_,_,_,_,_,_,_,_,_,_,_]) 29 0 0 bC rfl rfl rfl
 refine ND ?_
 refine M2 ?_
 intros
 refine My (cT rfl hh hh (el rfl) h1) fun _=>?_
 refine M5 ?_
 intros
 refine Mg c2 (cT rfl hh hh (el rfl) h2) fun _=>?_
 refine M8 ?_
 intros
 refine cV (od:=odS) rfl (⟨_,_,_,_,rfl,rfl,rfl,nu⟩) rfl (fun _=>?_)
 refine cV (od:=odS) rfl (⟨_,_,_,_,rfl,rfl,rfl,nu⟩) rfl (fun _=>?_)
 refine cV (od:=odS) rfl (⟨_,_,_,_,rfl,rfl,rfl,nu⟩) rfl (fun _=>?_)
 refine cV (od:=odS) rfl (⟨_,_,_,_,rfl,rfl,rfl,nu⟩) rfl (fun _=>?_)
 refine cV (od:=odS) rfl (⟨_,_,_,_,rfl,rfl,rfl,nu⟩) rfl (fun _=>?_)
 refine cV (od:=odS) rfl (⟨_,_,_,_,rfl,rfl,rfl,nu⟩) rfl (fun _=>?_)
 refine cV (od:=odS) rfl (⟨_,_,_,_,rfl,rfl,rfl,nu⟩) rfl (fun _=>?_)
 refine cV (od:=odS) rfl (⟨_,_,_,_,rfl,rfl,rfl,nu⟩) rfl (fun _=>?_)
 refine cV (od:=odS) rfl (⟨_,_,_,_,rfl,rfl,rfl,nu⟩) rfl (fun _=>?_)
 refine cV (od:=odS) rfl (⟨_,_,_,_,rfl,rfl,rfl,nu⟩) rfl (fun _=>?_)
 refine M2 ?_
 intros
 revert H;refine B9z fun r3 H e3=>?_
 cases e3;cases Hr2
 revert H;refine B3z fun r4 H e4=>?_
 cases e4;cases Hr1
 cases H
 exact To
 exact fk
 kernel_rfl
 revert H;refine is (fun c4 H=>?_) fun c4 H=>?_
 revert H;refine bs fun y3 h3 H=>?_
 revert H;refine bs fun z1 h4 H=>?_
 revert H;refine bs fun y4 h5 H=>?_
 apply bD (ods:=[_,_,_,_,_,_,_,_,_,_,_,_,_,_,_,_,_,_,_,_,_,_,_,_,_,_,_,_,_]) 29 0 0 bC rfl rfl rfl
 refine ND ?_
 refine M2 ?_
 intros
 refine My (cT rfl hh hh (el rfl) h1) fun _=>?_
 refine M5 ?_
 intros
 refine Mg c2 (cT rfl hh hh (el rfl) h2) fun _=>?_
 refine M8 ?_
 intros
 refine M8 ?_
 intros
 refine M4 ?_
 intros
 revert H;refine I2z (fun c5 H=>?_) fun c5 H=>?_
 revert H;refine B7z fun r5 H e5=>?_
 cases e5;cases Hr2
 revert H;refine B3z fun r6 H e6=>?_
 cases e6;cases Hr1
 cases H
 exact To
 refine Z4 ?_
 exact Tm (()) (ij H)
 exact fk
 kernel_rfl
 apply bD (ods:=[_,_,_,_,_,_,_,_,_,_,_,_,_,_,_,_,_,_,_,_,_,_,_,_,_,_,_,_,_]) 29 0 0 bC rfl rfl rfl
 refine ND ?_
 refine M2 ?_
 intros
 refine My (cT rfl hh hh (el rfl) h1) fun _=>?_
 refine M5 ?_
 intros
 refine Mg c2 (cT rfl hh hh (el rfl) h2) fun _=>?_
 refine M8 ?_
 intros
 refine M8 ?_
 intros
 refine M4 ?_
 intros
 refine Z6 ?_
 exact Tm (()) (ij H)
 exact fk
 kernel_rfl
 rintro i hi;subst o2;replace H:=Hr2;clear Hr2;try dsimp only at H ⊢
 revert H;refine B2z fun z2 h6 H=>?_
 refine Z3 ?_
 exact Tm ((k1,z2)) ⟨H,ls⟩
 refine Z6 ?_
 exact Tm (()) (ij H)
 rintro i hi;subst o1;replace H:=Hr1;clear Hr1;try dsimp only at H ⊢
 refine Z4 ?_
 cases H
 exact To
def qM (a1:Int) (a2:Int):Nat->(List Int)->Int->Option (List Int)
| 0,_,_=>none
| k+1,x4,x5=>
 if x5<a2 then
  (chk (a1+x5)).bind fun z2=>
  (cQ (x4++[z2])).bind fun z3=>
  (chk (x5+1)).bind fun z4=>
  qM a1 a2 k z3 z4
 else
  some x4
def oH (AA:Nat) (a0:List Int) (a1:Int) (a2:Int):Option (List Int):=
 (cQ ([]++a0)).bind fun z1=>
 (qM a1 a2 AA z1 0).bind fun x1=>
 some x1
theorem aDf (AA:Nat)  (a0:List Int) (a1:Int) (a2:Int) (r:List Int) (H:oH AA a0 a1 a2=some r):FnS Tryz.prog 68 [fSl tI a0,fI a1,fI a2] [] (fSl tI r) (fun _=>[]):=by
 unfold oH at H
 refine bB Tryz.func68 rfl Tryz.ntmps68 rfl (fun β=>?_)
 refine Z5 ?_
 refine fH tI 3 ?_
 refine bz H fun z1 h1 H=>?_
 refine iX (ys:=a0) a1F rfl rfl rfl (has rfl) (has rfl) (et rfl) rfl h1 (fun v1=>?_)
 refine rc 0 fun _=>?_
 revert H;refine B2z fun o1 H Hr1=>?_
 refine aO (ι:=List Int × Value) (fun i=>o1=i.1) (fun i=>[(7,fEq i.2)]) (fun i=>[aC i.2 3 tI i.1]) ?_ ?_
 refine Z4 ?_
 refine Th (ι:=List Int × Int × Value) (fun i=>qM a1 a2 i.1 i.2.1 i.2.2.1=_) (fun i=>[(1,fI a1),(2,fI a2),(7,fEq i.2.2.2),(8,fI i.2.2.1)]) (fun i=>[aC i.2.2.2 3 tI i.2.1]) (AA,z1,0,v1) H (fun _ h=>nomatch h) ?_
 clear H;rintro k1 ⟨x4,x5,v4⟩ H;dsimp only at H ⊢;rw [qM]at H
 refine rc 0 fun _=>?_
 refine aG ?_
 revert H;refine I5z (fun c1 H=>?_) fun c1 H=>?_
 refine Z3 ?_
 refine aG ?_
 revert H;refine B5z fun z2 h2 H=>?_
 refine Z1 ?_
 refine Tn (eQ (t:=tI) (xs:=[z2]) rfl (et rfl) (bY.cons rfl (has rfl) (cL (aF a1F)) bY.nil) rfl rfl rfl) fun b1=>?_
 generalize (Value.slice (some ⟨b1,0,none⟩) _ _)=v5
 refine rc 0 fun _=>?_
 revert H;refine bs fun z3 h3 H=>?_
 refine gH a1F rfl rfl rfl (has rfl) (has rfl) (et rfl) rfl h3 (fun v6=>?_)
 refine rc 0 fun _=>?_
 revert H;refine B6z fun z4 h4 H=>?_
 refine Z3 ?_
 exact Tm ((k1,z3,z4,v6)) ⟨H,ls⟩
 refine Z6 ?_
 exact Tm ((x4,v4)) (ij H)
 rintro⟨x1,v2⟩ hi;subst o1;replace H:=Hr1;clear Hr1;try dsimp only at H ⊢
 refine rc 0 fun _=>?_
 refine Z5 ?_
 refine bT (φ:=fSl tI x1) (v:=v2) [7,22,6] cM fz ?_
 refine bQ ?_
 cases H
 exact To
def wL (a0:List Int) (a1:List Int):Nat->(List Int)->Int->Option (List Int)
| 0,_,_=>none
| k+1,x4,x5=>
 if x5<(a1.length:Int)then
  (idx a1 x5).bind fun y1=>
  (idx a0 y1).bind fun y2=>
  (cQ (x4++[y2])).bind fun z1=>
  (chk (x5+1)).bind fun z2=>
  wL a0 a1 k z1 z2
 else
  some x4
def wD (AA:Nat) (a0:List Int) (a1:List Int):Option (List Int):=
 (wL a0 a1 AA [] 0).bind fun x1=>
 some x1
theorem r07_at_w (AA:Nat)  (a0:List Int) (a1:List Int) (r:List Int) (H:wD AA a0 a1=some r):FnS Tryz.prog 112 [fSl tI a0,fSl tI a1] [] (fSl tI r) (fun _=>[]):=by
 unfold wD at H
 refine bB Tryz.func112 rfl Tryz.ntmps112 rfl (fun β=>?_)
 revert H;refine B6z fun o1 H Hr1=>?_
 refine aO (ι:=List Int × Value) (fun i=>o1=i.1) (fun i=>[(5,fEq i.2)]) (fun i=>[aC i.2 3 tI i.1]) ?_ ?_
 refine Z4 ?_
 refine fH tI 3 ?_
 refine Th (ι:=List Int × Int × Value) (fun i=>wL a0 a1 i.1 i.2.1 i.2.2.1=_) (fun i=>[(0,fSl tI a0),(1,fSl tI a1),(5,fEq i.2.2.2),(6,fI i.2.2.1)]) (fun i=>[aC i.2.2.2 3 tI i.2.1]) (AA,[],0,(.slice none 0 0)) H (fun _ h=>nomatch h) ?_
 clear H;rintro k1 ⟨x4,x5,v3⟩ H;dsimp only at H ⊢;rw [wL]at H
 refine rc 0 fun _=>?_
 refine aG ?_
 revert H;refine I6z (fun c1 H=>?_) fun c1 H=>?_
 refine Z3 ?_
 refine aG ?_
 revert H;refine B6z fun y1 h1 H=>?_
 revert H;refine B2z fun y2 h2 H=>?_
 refine Z2 ?_
 refine Tn (eQ (t:=tI) (xs:=[y2]) rfl (et rfl) (bY.cons rfl (has rfl) (cL (aF a1F)) bY.nil) rfl rfl rfl) fun b1=>?_
 generalize (Value.slice (some ⟨b1,0,none⟩) _ _)=v4
 refine rc 0 fun _=>?_
 revert H;refine bs fun z1 h3 H=>?_
 refine gH a1F rfl rfl rfl (has rfl) (has rfl) (et rfl) rfl h3 (fun v5=>?_)
 refine rc 0 fun _=>?_
 revert H;refine B6z fun z2 h4 H=>?_
 refine Z3 ?_
 exact Tm ((k1,z1,z2,v5)) ⟨H,ls⟩
 refine Z6 ?_
 exact Tm ((x4,v3)) (ij H)
 rintro⟨x1,v1⟩ hi;subst o1;replace H:=Hr1;clear Hr1;try dsimp only at H ⊢
 refine rc 0 fun _=>?_
 refine Z5 ?_
 refine bT (φ:=fSl tI x1) (v:=v1) [5,23,4] cM fz ?_
 refine bQ ?_
 cases H
 exact To
def tV (rec_r07_exp:AV->(List Int)->Option (AV)) (a0:AV) (a1:List Int):Nat->(List AV)->Int->Option (List AV)
| 0,_,_=>none
| k+1,x5,x6=>
 if x6<(a0.AM.length:Int)then
  (idx a0.AM x6).bind fun y2=>
  (rec_r07_exp y2 a1).bind fun y3=>
  (cQ (x5++[y3])).bind fun z1=>
  (chk (x6+1)).bind fun z2=>
  tV rec_r07_exp a0 a1 k z1 z2
 else
  some x5
def mX:Nat->AV->(List Int)->Option (AV)
| 0,_,_=>none
| AA+1,a0,a1=>
 (if a0.Op=2 then
  (idx a1 a0.N).bind fun y1=>
  some y1
 else
  some a0.N).bind fun x1=>
 (tV (mX AA) a0 a1 AA [] 0).bind fun x2=>
 some (⟨a0.Op,x1,x2⟩:AV)
theorem aKI:∀ (AA:Nat),(∀  (a0:AV) (a1:List Int) (r:AV) (H:mX AA a0 a1=some r),FnS Tryz.prog 114 [fSt aN a0,fSl tI a1] [] (fSt aN r) (fun _=>[])):=by
 intro AA
 induction AA with
 | zero=>exact fun a0 a1 r H=>(by rw [mX]at H;cases H)
 | succ AA ih=>
 have ih_r07_exp:=@ih
 refine ?_
 intro a0 a1 r H
 rw [mX]at H
 refine bB Tryz.func114 rfl Tryz.ntmps114 rfl (fun β=>?_)
 refine Z1 ?_
 refine Tn (bU rfl hh bM) fun b1=>?_
 refine Tn (cB rfl jX rfl) fun b2=>?_
 revert H;refine B1z fun o1 H Hr1=>?_
 refine aO (fun i=>o1=i) (fun i=>[(1,fSl tI a1),(2,fEq (ptr b1)),(4,fEq (ptr b2))]) (fun i=>[aA b1 71 [fI a0.Op,fI i,dD a0.AM],aA b2 71 [fI 0,fI 0,fEq (.slice none 0 0)]]) ?_ ?_
 revert H;refine I5z (fun c1 H=>?_) fun c1 H=>?_
 revert H;refine B5z fun y1 h1 H=>?_
 refine Z3 ?_
 refine bH ?_
 refine bK (φs':=[fI a0.Op,fI y1,dD a0.AM]) a1F rfl rfl (has rfl) (has rfl) (aF a1F) (sz rfl) rfl rfl ?_
 refine Z1 ?_
 exact Tm (y1) (ij H)
 refine Z3 ?_
 refine aE [1,0] (by decide) ?_
 exact Tm (a0.N) (ij H)
 rintro x1 hi;subst o1;replace H:=Hr1;clear Hr1;try dsimp only at H ⊢
 revert H;refine B3z fun o2 H Hr2=>?_
 refine aO (ι:=List AV × Value) (fun i=>o2=i.1) (fun i=>[(2,fEq (ptr b1)),(4,fEq (ptr b2)),(5,fEq i.2)]) (fun i=>[aA b1 71 [fI a0.Op,fI x1,dD a0.AM],aA b2 71 [fI 0,fI 0,fEq (.slice none 0 0)],aC i.2 71 aN i.1]) ?_ ?_
 refine Z4 ?_
 refine fH aN 71 ?_
 refine aE [1,2,0] (by decide) ?_
 refine Th (ι:=List AV × Int × Value) (fun i=>tV (mX AA) a0 a1 i.1 i.2.1 i.2.2.1=_) (fun i=>[(1,fSl tI a1),(2,fEq (ptr b1)),(4,fEq (ptr b2)),(5,fEq i.2.2.2),(6,fI i.2.2.1)]) (fun i=>[aA b1 71 [fI a0.Op,fI x1,dD a0.AM],aA b2 71 [fI 0,fI 0,fEq (.slice none 0 0)],aC i.2.2.2 71 aN i.2.1]) (AA,[],0,(.slice none 0 0)) H (fun _ h=>nomatch h) ?_
 clear H;rintro k1 ⟨x5,x6,v3⟩ H;dsimp only at H ⊢;rw [tV]at H
 refine rc 2 fun _=>?_
 refine aG ?_
 refine Z3 ?_
 refine Yo 0 rfl (eU rfl hh (sc rfl) rfl (fB eO)) ?_
 revert H;refine I3z (fun c2 H=>?_) fun c2 H=>?_
 refine Z3 ?_
 refine aG ?_
 refine Z4 ?_
 refine Yo 0 rfl (eU rfl hh (sc rfl) rfl (fB eO)) ?_
 revert H;refine B1z fun y2 h2 H=>?_
 revert H;refine B3z fun y3 h3 H=>?_
 refine Tc (ih_r07_exp _ _ _ h3) ?_
 refine Tn (eQ (t:=aN) (xs:=[y3]) rfl (et rfl) (bY.cons rfl hh bM bY.nil) rfl rfl rfl) fun b3=>?_
 generalize (Value.slice (some ⟨b3,0,none⟩) _ _)=v4
 refine rc 0 fun _=>?_
 revert H;refine bs fun z1 h4 H=>?_
 refine cZ ?_
 refine bH ?_
 refine gH a1F rfl rfl rfl (has rfl) (has rfl) (et rfl) rfl h4 (fun v5=>?_)
 refine rc 0 fun _=>?_
 revert H;refine B6z fun z2 h5 H=>?_
 refine Z3 ?_
 refine aE [1,2,0] (by decide) ?_
 exact Tm ((k1,z1,z2,v5)) ⟨H,ls⟩
 refine Z6 ?_
 exact Tm ((x5,v3)) (ij H)
 rintro⟨x2,v1⟩ hi;subst o2;replace H:=Hr2;clear Hr2;try dsimp only at H ⊢
 refine rc 2 fun hc_v1=>?_
 refine Z3 ?_
 refine bK (φs':=[fI a0.Op,fI x1,fEq v1]) a1F rfl rfl (has rfl) (has rfl) (aF hc_v1) (sz rfl) rfl rfl ?_
 refine Z3 ?_
 refine bH ?_
 refine cO (φs':=[fI a0.Op,fI x1,fEq v1]) a1F rfl rfl (has rfl) (has rfl) (aI (aF a1F) (aI (aF a1F) (aI (aF hc_v1) bN))) (sz rfl) rfl rfl rfl ?_
 refine Z2 ?_
 refine dK ?_
 refine bT (φ:=fSl aN x2) (v:=v1) [5,33] cM fz ?_
 refine dK ?_
 refine bH ?_
 refine dO (φs':=[fI a0.Op,fI x1,fSl aN x2]) (i:=2) rfl rfl ?_
 refine dK ?_
 refine bH ?_
 refine dO (φs':=[fI a0.Op,fI x1,fSl aN x2]) (i:=2) rfl rfl ?_
 refine lN 35 (ψ:=eC [fI a0.Op,fI x1,fEq v1]) rfl (lA (i:=2) (φs:=[fI a0.Op,fI x1,fEq v1]) (φs':=[fI a0.Op,fI x1,fSl aN x2]) rfl rfl) ?_
 refine bQ ?_
 cases H
 refine aE [0] (by decide) ?_
 exact T_outCS rfl (ag rfl) rfl (bO rfl) (tT (aK.cons Ent.rfl (aK.cons Ent.rfl (aK.cons (zS .rfl) aK.nil)))) rfl
def uV (a0:AN) (a1:Ah):Nat->Int->Int->Option ((Int) ⊕ (Int))
| 0,_,_=>none
| k+1,x4,x5=>
 if x5<(a1.Ad.length:Int)then
  (idx a1.Ad x5).bind fun y1=>
  if y1<0 then
   (some (-1)).bind fun r=>some (Sum.inr r)
  else
   if (a0.AT.length:Int)<=y1 then
    (some (-1)).bind fun r=>some (Sum.inr r)
   else
    (idx a0.AT y1).bind fun y2=>
    if y2.Ar<0 then
     (some (-1)).bind fun r=>some (Sum.inr r)
    else
     (idx a0.AT y1).bind fun y3=>
     if 3<y3.Ar then
      (some (-1)).bind fun r=>some (Sum.inr r)
     else
      (idx a0.AT y1).bind fun y4=>
      (chk (x4+y4.Ar)).bind fun z1=>
      (chk (x5+1)).bind fun z2=>
      uV a0 a1 k z1 z2
 else
  some (Sum.inl x4)
def uD (AA:Nat) (a0:AN) (a1:Ah):Option (Int):=
 if 3<(a1.Ad.length:Int)then
  some (-1)
 else
  (uV a0 a1 AA 0 0).bind fun o=>match o with
  | Sum.inr r=>some r
  | Sum.inl x1=>
  some x1
theorem aKW (AA:Nat)  (a0:AN) (a1:Ah) (r:Int) (H:uD AA a0 a1=some r):FnS Tryz.prog 67 [fSt aB a0,fSt aY a1] [] (fI r) (fun _=>[]):=by
 unfold uD at H
 refine bB Tryz.func67 rfl Tryz.ntmps67 rfl (fun β=>?_)
 refine Z1 ?_
 refine Tn (bU rfl hh bM) fun b1=>?_
 refine Tn (bU rfl hh bM) fun b2=>?_
 refine Z2 ?_
 refine aG ?_
 refine I6 H (fun c1 H=>?_) fun c1 H=>?_
 refine Z5 ?_
 cases H
 refine aE [] (by decide) ?_
 exact To
 revert H;refine B6z fun o1 H Hr1=>?_
 refine aO (fun i=>o1=Sum.inl i) (fun i=>[(5,fI i)]) (fun i=>[aA b2 81 [fI a1.At,fSl tI a1.Ad,fI a1.AW],aA b1 77 [fSl aZ a0.AT,fSl aU a0.AS,fSl aY a0.AQ]]) ?_ ?_
 refine Z4 ?_
 refine Th (ι:=Int × Int) (fun i=>uV a0 a1 i.1 i.2.1 i.2.2=_) (fun i=>[(2,fEq (ptr b1)),(3,fEq (ptr b2)),(5,fI i.2.1),(6,fI i.2.2)]) (fun i=>[aA b2 81 [fI a1.At,fSl tI a1.Ad,fI a1.AW],aA b1 77 [fSl aZ a0.AT,fSl aU a0.AS,fSl aY a0.AQ]]) (AA,0,0) H (fun _ h=>nomatch h) ?_
 clear H;rintro k1 ⟨x4,x5⟩ H;dsimp only at H ⊢;rw [uV]at H
 refine aG ?_
 revert H;refine I7z (fun c2 H=>?_) fun c2 H=>?_
 refine Z3 ?_
 refine aG ?_
 revert H;refine B5z fun y1 h1 H=>?_
 refine Z4 ?_
 refine aG ?_
 revert H;refine I4z (fun c3 H=>?_) fun c3 H=>?_
 refine Z12 ?_
 refine Z12 ?_
 revert H;refine B11z fun r1 H e1=>?_
 cases e1;cases Hr1
 cases H
 refine aE [] (by decide) ?_
 exact To
 revert H;refine I7z (fun c4 H=>?_) fun c4 H=>?_
 refine Z12 ?_
 refine Z12 ?_
 revert H;refine B4z fun r2 H e2=>?_
 cases e2;cases Hr1
 cases H
 refine aE [] (by decide) ?_
 exact To
 revert H;refine B3z fun y2 h2 H=>?_
 refine Yg c4 (cT rfl hh hh (el rfl) h2) ?_
 revert H;refine I5z (fun c5 H=>?_) fun c5 H=>?_
 refine Z12 ?_
 revert H;refine B7z fun r3 H e3=>?_
 cases e3;cases Hr1
 cases H
 refine aE [] (by decide) ?_
 exact To
 revert H;refine B3z fun y3 h3 H=>?_
 refine Yg c5 (cT rfl hh hh (el rfl) h3) ?_
 revert H;refine I5z (fun c6 H=>?_) fun c6 H=>?_
 revert H;refine dS fun r4 H e4=>?_
 cases e4;cases Hr1
 cases H
 refine aE [] (by decide) ?_
 exact To
 revert H;refine B8z fun y4 h4 H=>?_
 revert H;refine B3z fun z1 h5 H=>?_
 revert H;refine B7z fun z2 h6 H=>?_
 refine Z3 ?_
 exact Tm ((k1,z1,z2)) ⟨H,ls⟩
 refine Z6 ?_
 exact Tm (x4) (ij H)
 rintro x1 hi;subst o1;replace H:=Hr1;clear Hr1;try dsimp only at H ⊢
 refine Z5 ?_
 cases H
 refine aE [] (by decide) ?_
 exact To
open Go.SX Go.SW Go.Dt
def pN (AA:Nat) (a0:Ag) (a1:Int) (a2:List Int) (a3:Int) (y5:Ao) (y7:List Int):Nat->Int->(List AV)->Option ((List AV) ⊕ (Ag))
| 0,_,_=>none
| k+1,x5,x6=>
 if x5<(y5.AX.length:Int)then
  (idx y5.AX x5).bind fun y9=>
  (vA AA y9 (a2.length:Int)).bind fun y10=>
  bif y10 then
   (idx y5.AX x5).bind fun y11=>
   (mX AA y11 a2).bind fun y12=>
   (cQ (x6++[y12])).bind fun z2=>
   (chk (x5+1)).bind fun z3=>
   pN AA a0 a1 a2 a3 y5 y7 k z3 z2
  else
   (some (⟨(⟨a0.f.AF,a0.f.AI,a0.f.AB,a0.f.AD,a0.f.AG⟩:AH),a0.AP.set a1.toNat true,a0.AY.set a1.toNat a2,a0.Aa.set a1.toNat a3,a0.AU.set a1.toNat y7,(⟨a0.p.AF,a0.p.AB,a0.p.AD,a0.p.AG⟩:AJ),true⟩:Ag)).bind fun r=>some (Sum.inr r)
 else
  some (Sum.inl x6)
def iK (rec_r07_opener_node:Ag->Int->(List Int)->Int->Option (Ag)) (y5:Ao) (x7:Int) (x8:List Int):Nat->Int->(List ByteArray)->(List Int)->(List Ao)->(List AN)->Int->(List Bool)->(List (List Int))->(List Int)->(List (List Int))->(List ByteArray)->(List AZ)->(List AN)->Int->Bool->Option (Ag)
| 0,_,_,_,_,_,_,_,_,_,_,_,_,_,_,_=>none
| k+1,x44,x45,x46,x47,x48,x49,x50,x51,x52,x53,x54,x55,x56,x57,x58=>
 if x44<(y5.AM.length:Int)then
  bif x58 then
   some (⟨(⟨x45,x46,x47,x48,x49⟩:AH),x50,x51,x52,x53,(⟨x54,x55,x56,x57⟩:AJ),x58⟩:Ag)
  else
   (idx y5.AM x44).bind fun y19=>
   (rec_r07_opener_node (⟨(⟨x45,x46,x47,x48,x49⟩:AH),x50,x51,x52,x53,(⟨x54,x55,x56,x57⟩:AJ),x58⟩:Ag) y19 x8 x7).bind fun y20=>
   (chk (x44+1)).bind fun z5=>
   iK rec_r07_opener_node y5 x7 x8 k z5 y20.f.AF y20.f.AI y20.f.AB y20.f.AD y20.f.AG y20.AP y20.AY y20.Aa y20.AU y20.p.AF y20.p.AB y20.p.AD y20.p.AG y20.bad
 else
  some (⟨(⟨x45,x46,x47,x48,x49⟩:AH),x50,x51,x52,x53,(⟨x54,x55,x56,x57⟩:AJ),x58⟩:Ag)
def nA (AA:Nat) (rec_r07_opener_node:Ag->Int->(List Int)->Int->Option (Ag)) (a1:AN) (a3:Int) (z1:Int) (y1:List Int):Nat->Int->(List ByteArray)->(List Int)->(List Ao)->(List AN)->Int->(List Bool)->(List (List Int))->(List Int)->(List (List Int))->(List ByteArray)->(List AZ)->(List AN)->Int->Bool->Option ((List ByteArray × List Int × List Ao × List AN × Int × List Bool × List (List Int) × List Int × List (List Int) × List ByteArray × List AZ × List AN × Int × Bool) ⊕ (Ag × Int))
| 0,_,_,_,_,_,_,_,_,_,_,_,_,_,_,_=>none
| k+1,x30,x31,x32,x33,x34,x35,x36,x37,x38,x39,x40,x41,x42,x43,x44=>
 if x30<(a1.AQ.length:Int)then
  bif x44 then
   some (Sum.inl (x31,x32,x33,x34,x35,x36,x37,x38,x39,x40,x41,x42,x43,x44))
  else
   (idx a1.AQ x30).bind fun y2=>
   (uD AA (⟨a1.AT,a1.AS,a1.AQ⟩:AN) y2).bind fun y3=>
   if y3<0 then
    (some ((⟨(⟨x31,x32,x33,x34,x35⟩:AH),x36,x37,x38,x39,(⟨x40,x41,x42,x43⟩:AJ),true⟩:Ag),z1)).bind fun r=>some (Sum.inr r)
   else
    (idx a1.AQ x30).bind fun y4=>
    (chk (a3+z1)).bind fun z2=>
    (oH AA y1 z2 y3).bind fun y5=>
    (chk (a3+z1)).bind fun z3=>
    (chk (z3+y3)).bind fun z4=>
    (rec_r07_opener_node (⟨(⟨x31,x32,x33,x34,x35⟩:AH),x36,x37,x38,x39,(⟨x40,x41,x42,x43⟩:AJ),x44⟩:Ag) y4.AW y5 z4).bind fun y6=>
    (chk (x30+1)).bind fun z5=>
    nA AA rec_r07_opener_node a1 a3 z1 y1 k z5 y6.f.AF y6.f.AI y6.f.AB y6.f.AD y6.f.AG y6.AP y6.AY y6.Aa y6.AU y6.p.AF y6.p.AB y6.p.AD y6.p.AG y6.bad
 else
  some (Sum.inl (x31,x32,x33,x34,x35,x36,x37,x38,x39,x40,x41,x42,x43,x44))
def lI (rec_r07_opener_node:Ag->Int->(List Int)->Int->Option (Ag)) (a1:AN) (a3:Int) (z1:Int) (y1:List Int):Nat->Int->(List ByteArray)->(List Int)->(List Ao)->(List AN)->Int->(List Bool)->(List (List Int))->(List Int)->(List (List Int))->(List ByteArray)->(List AZ)->(List AN)->Int->Bool->Option (List ByteArray × List Int × List Ao × List AN × Int × List Bool × List (List Int) × List Int × List (List Int) × List ByteArray × List AZ × List AN × Int × Bool)
| 0,_,_,_,_,_,_,_,_,_,_,_,_,_,_,_=>none
| k+1,x74,x75,x76,x77,x78,x79,x80,x81,x82,x83,x84,x85,x86,x87,x88=>
 if x74<(a1.AS.length:Int)then
  bif x88 then
   some (x75,x76,x77,x78,x79,x80,x81,x82,x83,x84,x85,x86,x87,x88)
  else
   (idx a1.AS x74).bind fun y7=>
   (chk (a3+z1)).bind fun z6=>
   (rec_r07_opener_node (⟨(⟨x75,x76,x77,x78,x79⟩:AH),x80,x81,x82,x83,(⟨x84,x85,x86,x87⟩:AJ),x88⟩:Ag) y7.AW y1 z6).bind fun y8=>
   (chk (x74+1)).bind fun z7=>
   lI rec_r07_opener_node a1 a3 z1 y1 k z7 y8.f.AF y8.f.AI y8.f.AB y8.f.AD y8.f.AG y8.AP y8.AY y8.Aa y8.AU y8.p.AF y8.p.AB y8.p.AD y8.p.AG y8.bad
 else
  some (x75,x76,x77,x78,x79,x80,x81,x82,x83,x84,x85,x86,x87,x88)
mutual
def eE:Nat->Ag->Int->(List Int)->Int->Option (Ag)
| 0,_,_,_,_=>none
| AA+1,a0,a1,a2,a3=>
 bif a0.bad then
  some (⟨(⟨a0.f.AF,a0.f.AI,a0.f.AB,a0.f.AD,a0.f.AG⟩:AH),a0.AP,a0.AY,a0.Aa,a0.AU,(⟨a0.p.AF,a0.p.AB,a0.p.AD,a0.p.AG⟩:AJ),true⟩:Ag)
 else
  if a1<0 then
   some (⟨(⟨a0.f.AF,a0.f.AI,a0.f.AB,a0.f.AD,a0.f.AG⟩:AH),a0.AP,a0.AY,a0.Aa,a0.AU,(⟨a0.p.AF,a0.p.AB,a0.p.AD,a0.p.AG⟩:AJ),true⟩:Ag)
  else
   if (a0.f.AB.length:Int)<=a1 then
    some (⟨(⟨a0.f.AF,a0.f.AI,a0.f.AB,a0.f.AD,a0.f.AG⟩:AH),a0.AP,a0.AY,a0.Aa,a0.AU,(⟨a0.p.AF,a0.p.AB,a0.p.AD,a0.p.AG⟩:AJ),true⟩:Ag)
   else
    (idx a0.AP a1).bind fun y1=>
    bif y1 then
     some (⟨(⟨a0.f.AF,a0.f.AI,a0.f.AB,a0.f.AD,a0.f.AG⟩:AH),a0.AP,a0.AY,a0.Aa,a0.AU,(⟨a0.p.AF,a0.p.AB,a0.p.AD,a0.p.AG⟩:AJ),true⟩:Ag)
    else
     (idx a0.AP a1).bind fun y2=>
     (idx a0.AY a1).bind fun y3=>
     (idx a0.Aa a1).bind fun y4=>
     (idx a0.f.AB a1).bind fun y5=>
     (if y5.Op=4 then
      some true
     else
      if y5.Op=6 then
       some true
      else
       if y5.Op=7 then
        some true
       else
        some (decide (y5.Op=8))).bind fun x1=>
     ((vO AA y5.AI (a2.length:Int)).bind fun y6=>
     bif !y6 then
      (some (⟨(⟨a0.f.AF,a0.f.AI,a0.f.AB,a0.f.AD,a0.f.AG⟩:AH),a0.AP.set a1.toNat true,a0.AY.set a1.toNat a2,a0.Aa.set a1.toNat a3,a0.AU,(⟨a0.p.AF,a0.p.AB,a0.p.AD,a0.p.AG⟩:AJ),true⟩:Ag)).bind fun r=>some (Sum.inr r)
     else
      bif !x1 then
       if 0<(y5.AI.length:Int)then
        (some (⟨(⟨a0.f.AF,a0.f.AI,a0.f.AB,a0.f.AD,a0.f.AG⟩:AH),a0.AP.set a1.toNat true,a0.AY.set a1.toNat a2,a0.Aa.set a1.toNat a3,a0.AU,(⟨a0.p.AF,a0.p.AB,a0.p.AD,a0.p.AG⟩:AJ),true⟩:Ag)).bind fun r=>some (Sum.inr r)
       else
        if 3<(y5.AX.length:Int)then
         (some (⟨(⟨a0.f.AF,a0.f.AI,a0.f.AB,a0.f.AD,a0.f.AG⟩:AH),a0.AP.set a1.toNat true,a0.AY.set a1.toNat a2,a0.Aa.set a1.toNat a3,a0.AU,(⟨a0.p.AF,a0.p.AB,a0.p.AD,a0.p.AG⟩:AJ),true⟩:Ag)).bind fun r=>some (Sum.inr r)
        else
         if 2<(y5.AM.length:Int)then
          (some (⟨(⟨a0.f.AF,a0.f.AI,a0.f.AB,a0.f.AD,a0.f.AG⟩:AH),a0.AP.set a1.toNat true,a0.AY.set a1.toNat a2,a0.Aa.set a1.toNat a3,a0.AU,(⟨a0.p.AF,a0.p.AB,a0.p.AD,a0.p.AG⟩:AJ),true⟩:Ag)).bind fun r=>some (Sum.inr r)
         else
          some (Sum.inl ())
      else
       if 3<(y5.AX.length:Int)then
        (some (⟨(⟨a0.f.AF,a0.f.AI,a0.f.AB,a0.f.AD,a0.f.AG⟩:AH),a0.AP.set a1.toNat true,a0.AY.set a1.toNat a2,a0.Aa.set a1.toNat a3,a0.AU,(⟨a0.p.AF,a0.p.AB,a0.p.AD,a0.p.AG⟩:AJ),true⟩:Ag)).bind fun r=>some (Sum.inr r)
       else
        if 2<(y5.AM.length:Int)then
         (some (⟨(⟨a0.f.AF,a0.f.AI,a0.f.AB,a0.f.AD,a0.f.AG⟩:AH),a0.AP.set a1.toNat true,a0.AY.set a1.toNat a2,a0.Aa.set a1.toNat a3,a0.AU,(⟨a0.p.AF,a0.p.AB,a0.p.AD,a0.p.AG⟩:AJ),true⟩:Ag)).bind fun r=>some (Sum.inr r)
        else
         some (Sum.inl ())).bind fun o=>match o with
     | Sum.inr r=>some r
     | Sum.inl _=>
     (wD AA a2 y5.AI).bind fun y7=>
     (idx a0.AU a1).bind fun y8=>
     (cQ ([]++y5.AM)).bind fun z1=>
     (pN AA a0 a1 a2 a3 y5 y7 AA 0 []).bind fun o=>match o with
     | Sum.inr r=>some r
     | Sum.inl x2=>
     (if y5.Op=2 then
      (if y5.N<0 then
       some true
      else
       some (decide ((a2.length:Int)<=y5.N))).bind fun x24=>
      bif x24 then
       some (a3,a2,a0.f.AF,a0.f.AI,a0.f.AB,a0.f.AD,a0.f.AG,a0.AP.set a1.toNat true,a0.AY.set a1.toNat a2,a0.Aa.set a1.toNat a3,a0.AU.set a1.toNat y7,a0.p.AF,a0.p.AB,a0.p.AD,a0.p.AG,x24,y5.N)
      else
       (idx a2 y5.N).bind fun y13=>
       some (a3,a2,a0.f.AF,a0.f.AI,a0.f.AB,a0.f.AD,a0.f.AG,a0.AP.set a1.toNat true,a0.AY.set a1.toNat a2,a0.Aa.set a1.toNat a3,a0.AU.set a1.toNat y7,a0.p.AF,a0.p.AB,a0.p.AD,a0.p.AG,x24,y13)
     else
      (if y5.Op=6 then
       some (decide (y5.Op=6))
      else
       some (decide (y5.Op=8))).bind fun x25=>
      bif x25 then
       (if y5.N<0 then
        some true
       else
        some (decide ((y7.length:Int)<=y5.N))).bind fun x26=>
       (bif x26 then
        some y5.N
       else
        (idx y7 y5.N).bind fun y14=>
        some y14).bind fun x27=>
       some (a3,y7,a0.f.AF,a0.f.AI,a0.f.AB,a0.f.AD,a0.f.AG,a0.AP.set a1.toNat true,a0.AY.set a1.toNat a2,a0.Aa.set a1.toNat a3,a0.AU.set a1.toNat y7,a0.p.AF,a0.p.AB,a0.p.AD,a0.p.AG,x26,x27)
      else
       if y5.Op=4 then
        (if y5.N<0 then
         some true
        else
         some (decide ((a0.f.AD.length:Int)<=y5.N))).bind fun x28=>
        bif x28 then
         some (a3,a2,a0.f.AF,a0.f.AI,a0.f.AB,a0.f.AD,a0.f.AG,a0.AP.set a1.toNat true,a0.AY.set a1.toNat a2,a0.Aa.set a1.toNat a3,a0.AU.set a1.toNat y7,a0.p.AF,a0.p.AB,a0.p.AD,a0.p.AG,x28,y5.N)
        else
         (idx a0.f.AD y5.N).bind fun y15=>
         ((pK AA) (⟨(⟨a0.f.AF,a0.f.AI,a0.f.AB,a0.f.AD,a0.f.AG⟩:AH),a0.AP.set a1.toNat true,a0.AY.set a1.toNat a2,a0.Aa.set a1.toNat a3,a0.AU.set a1.toNat y7,(⟨a0.p.AF,a0.p.AB,a0.p.AD,a0.p.AG⟩:AJ),x28⟩:Ag) y15 y7 a3).bind fun y16=>
         (oH AA a2 a3 y16.2).bind fun y17=>
         (chk (a3+y16.2)).bind fun z4=>
         some (z4,y17,y16.1.f.AF,y16.1.f.AI,y16.1.f.AB,y16.1.f.AD,y16.1.f.AG,y16.1.AP,y16.1.AY,y16.1.Aa,y16.1.AU,y16.1.p.AF,y16.1.p.AB,y16.1.p.AD,y16.1.p.AG,y16.1.bad,y5.N)
       else
        some (a3,a2,a0.f.AF,a0.f.AI,a0.f.AB,a0.f.AD,a0.f.AG,a0.AP.set a1.toNat true,a0.AY.set a1.toNat a2,a0.Aa.set a1.toNat a3,a0.AU.set a1.toNat y7,a0.p.AF,a0.p.AB,a0.p.AD,a0.p.AG,a0.bad,y5.N)).bind fun (x7,x8,x9,x10,x11,x12,x13,x14,x15,x16,x17,x18,x19,x20,x21,x22,x23)=>
     (idx x19 a1).bind fun y18=>
     iK (eE AA) y5 x7 x8 AA 0 x9 x10 x11 x12 x13 x14 x15 x16 x17 x18 (x19.set a1.toNat (⟨y5.Op,x23,x2,z1⟩:AZ)) x20 x21 x22
def pK:Nat->Ag->AN->(List Int)->Int->Option (Ag × Int)
| 0,_,_,_,_=>none
| AA+1,a0,a1,a2,a3=>
 if 30<(a1.AT.length:Int)then
  some ((⟨(⟨a0.f.AF,a0.f.AI,a0.f.AB,a0.f.AD,a0.f.AG⟩:AH),a0.AP,a0.AY,a0.Aa,a0.AU,(⟨a0.p.AF,a0.p.AB,a0.p.AD,a0.p.AG⟩:AJ),true⟩:Ag),0)
 else
  if 30<(a1.AS.length:Int)then
   some ((⟨(⟨a0.f.AF,a0.f.AI,a0.f.AB,a0.f.AD,a0.f.AG⟩:AH),a0.AP,a0.AY,a0.Aa,a0.AU,(⟨a0.p.AF,a0.p.AB,a0.p.AD,a0.p.AG⟩:AJ),true⟩:Ag),0)
  else
   if 30<(a1.AQ.length:Int)then
    some ((⟨(⟨a0.f.AF,a0.f.AI,a0.f.AB,a0.f.AD,a0.f.AG⟩:AH),a0.AP,a0.AY,a0.Aa,a0.AU,(⟨a0.p.AF,a0.p.AB,a0.p.AD,a0.p.AG⟩:AJ),true⟩:Ag),0)
   else
    (chk ((a1.AT.length:Int)+(a1.AS.length:Int))).bind fun z1=>
    (oH AA a2 a3 z1).bind fun y1=>
    (nA AA (eE AA) a1 a3 z1 y1 AA 0 a0.f.AF a0.f.AI a0.f.AB a0.f.AD a0.f.AG a0.AP a0.AY a0.Aa a0.AU a0.p.AF a0.p.AB a0.p.AD a0.p.AG a0.bad).bind fun o=>match o with
    | Sum.inr r=>some r
    | Sum.inl (x1,x2,x3,x4,x5,x6,x7,x8,x9,x10,x11,x12,x13,x14)=>
    (lI (eE AA) a1 a3 z1 y1 AA 0 x1 x2 x3 x4 x5 x6 x7 x8 x9 x10 x11 x12 x13 x14).bind fun (x45,x46,x47,x48,x49,x50,x51,x52,x53,x54,x55,x56,x57,x58)=>
    some ((⟨(⟨x45,x46,x47,x48,x49⟩:AH),x50,x51,x52,x53,(⟨x54,x55,x56,x57⟩:AJ),x58⟩:Ag),z1)
end
theorem aIp:∀ (AA:Nat),(∀ (p0:Nat) (a0:Ag) (a1:Int) (a2:List Int) (a3:Int) (r:Ag) (H:eE AA a0 a1 a2 a3=some r),FnS Tryz.prog 80 [fEq (.pointer (some ⟨p0,0,none⟩)),fI a1,fSl tI a2,fI a3] [mL p0 a0] (dB []) (fun _=>[mL p0 r]))/\(∀ (p0:Nat) (a0:Ag) (a1:AN) (a2:List Int) (a3:Int) (r:Ag × Int) (H:pK AA a0 a1 a2 a3=some r),FnS Tryz.prog 115 [fEq (.pointer (some ⟨p0,0,none⟩)),fSt aB a1,fSl tI a2,fI a3] [mL p0 a0] (fI r.2) (fun _=>[mL p0 r.1])):=by
 intro AA
 induction AA with
 | zero=>exact⟨fun p0 a0 a1 a2 a3 r H=>(by rw [eE]at H;cases H),fun p0 a0 a1 a2 a3 r H=>(by rw [pK]at H;cases H)⟩
 | succ AA ih=>
 obtain⟨ih_r07_opener_node,ih_r07_opener_define⟩:=@ih
 refine⟨?_,?_⟩
 intro p0 a0 a1 a2 a3 r H
 rw [eE]at H
 refine bB Tryz.func80 rfl Tryz.ntmps80 rfl (fun β=>?_)
 refine rX (fun v1 v2 v3 v4 v5=>?_)
 refine rc 1 fun hc_v1=>?_
 refine rc 2 fun hc_v2=>?_
 refine rc 3 fun hc_v3=>?_
 refine rc 4 fun hc_v4=>?_
 refine rc 5 fun hc_v5=>?_
 refine aG ?_
 refine Z6 ?_
 refine cz H (fun c1 H=>?_) fun c1 H=>?_
 refine Z12 ?_
 refine Z12 ?_
 refine Z4 ?_
 refine bK (φs':=[fSl aD a0.f.AF,fSl tI a0.f.AI,fSl aW a0.f.AB,fSl aB a0.f.AD,fI a0.f.AG,fEq v1,fEq v2,fEq v3,fEq v4,fSl aD a0.p.AF,fEq v5,fSl aB a0.p.AD,fI a0.p.AG,aH true]) a1F rfl rfl (has rfl) (has rfl) (aF a1F) (sz rfl) rfl rfl ?_
 refine Z2 ?_
 refine fC ?_
 cases H
 exact dH (.inl rfl) rfl rfl
 refine I4 H (fun c2 H=>?_) fun c2 H=>?_
 refine Z12 ?_
 refine Z12 ?_
 refine bK (φs':=[fSl aD a0.f.AF,fSl tI a0.f.AI,fSl aW a0.f.AB,fSl aB a0.f.AD,fI a0.f.AG,fEq v1,fEq v2,fEq v3,fEq v4,fSl aD a0.p.AF,fEq v5,fSl aB a0.p.AD,fI a0.p.AG,aH true]) a1F rfl rfl (has rfl) (has rfl) (aF a1F) (sz rfl) rfl rfl ?_
 refine Z2 ?_
 refine fC ?_
 cases H
 exact dH (.inl rfl) rfl rfl
 refine I10 H (fun c3 H=>?_) fun c3 H=>?_
 refine Z12 ?_
 refine Z2 ?_
 refine bK (φs':=[fSl aD a0.f.AF,fSl tI a0.f.AI,fSl aW a0.f.AB,fSl aB a0.f.AD,fI a0.f.AG,fEq v1,fEq v2,fEq v3,fEq v4,fSl aD a0.p.AF,fEq v5,fSl aB a0.p.AD,fI a0.p.AG,aH true]) a1F rfl rfl (has rfl) (has rfl) (aF a1F) (sz rfl) rfl rfl ?_
 refine Z2 ?_
 refine fC ?_
 cases H
 exact dH (.inl rfl) rfl rfl
 refine B5 H fun y1 h1 H=>?_
 refine Yh 1 rfl c3 (jO rfl hh hh (el rfl) h1) ?_
 refine Yh 1 rfl c3 (iA rfl rfl hh (sc rfl) (dN h1) rfl) ?_
 refine Z2 ?_
 refine cz H (fun c4 H=>?_) fun c4 H=>?_
 refine Z5 ?_
 refine bK (φs':=[fSl aD a0.f.AF,fSl tI a0.f.AI,fSl aW a0.f.AB,fSl aB a0.f.AD,fI a0.f.AG,fEq v1,fEq v2,fEq v3,fEq v4,fSl aD a0.p.AF,fEq v5,fSl aB a0.p.AD,fI a0.p.AG,aH true]) a1F rfl rfl (has rfl) (has rfl) (aF a1F) (sz rfl) rfl rfl ?_
 refine Z2 ?_
 refine fC ?_
 cases H
 exact dH (.inl rfl) rfl rfl
 refine B9 H fun y2 h2 H=>?_
 refine Yo 1 rfl (jO rfl hh hh (el rfl) h2) ?_
 refine bH ?_
 refine wO (z':=true) a1F rfl rfl rfl (has rfl) (has rfl) (aF a1F) (sz rfl) (dN h2) rfl rfl ?_
 refine Z1 ?_
 refine aG ?_
 refine bz H fun y3 h3 H=>?_
 refine bz H fun y4 h4 H=>?_
 apply bD (ods:=[_,_,_,_,_,_,_,_,_,_,_,_,_,_,_,_]) 16 0 6 bC rfl rfl rfl
 refine ND ?_
 refine M8 ?_
 intros
 refine M4 ?_
 intros
 refine Mo 2 rfl (jO rfl hh hh (el rfl) h3) fun _=>?_
 refine mJ (od:=odC [2] true (dP) [aC v2 27 (tSl tI) (a0.AY.set a1.toNat a2)]) (p:=2) (z':=a2) rfl (fun _=>rfl) (fun _=>rfl) a1F rfl rfl rfl rfl (has rfl) (has rfl) (aS) (sz rfl) (dN h3) rfl rfl (fun _=>?_)
 refine M1 ?_
 intros
 refine mJ (od:=odC [3] true (dP) [aC v3 3 tI (a0.Aa.set a1.toNat a3)]) (p:=3) (z':=a3) rfl (fun _=>rfl) (fun _=>rfl) a1F rfl rfl rfl rfl (has rfl) (has rfl) (aF a1F) (sz rfl) (dN h4) rfl rfl (fun _=>?_)
 refine B9 H fun y5 h5 H=>?_
 refine Z2 ?_
 refine Tn (cB rfl aBF rfl) fun b1=>?_
 refine cO (φs':=[fI y5.Op,fI y5.N,fSl aN y5.AX,fSl tI y5.AM,fSl tI y5.AI]) a1F rfl rfl (has rfl) (has rfl) (aI (aF a1F) (aI (aF a1F) (aI (aS) (aI (aS) (aI (aS) bN))))) (sz rfl) rfl rfl rfl ?_
 revert H;refine B1z fun o1 H Hr1=>?_
 refine aO (fun i=>o1=i) (fun i=>[(0,fEq (ptr p0)),(1,fI a1),(2,fSl tI a2),(3,fI a3),(8,fEq (ptr b1)),(9,aH i)]) (fun i=>[aA b1 54 [fI y5.Op,fI y5.N,fSl aN y5.AX,fSl tI y5.AM,fSl tI y5.AI],aA p0 118 [fSl aD a0.f.AF,fSl tI a0.f.AI,fSl aW a0.f.AB,fSl aB a0.f.AD,fI a0.f.AG,fEq v1,fEq v2,fEq v3,fEq v4,fSl aD a0.p.AF,fEq v5,fSl aB a0.p.AD,fI a0.p.AG,aH a0.bad],aC v1 4 aR (a0.AP.set a1.toNat true),aC v2 27 (tSl tI) (a0.AY.set a1.toNat a2),aC v3 3 tI (a0.Aa.set a1.toNat a3),aC v4 27 (tSl tI) a0.AU,aC v5 65 aJ a0.p.AB]) ?_ ?_
 revert H;refine I5z (fun c5 H=>?_) fun c5 H=>?_
 refine Z12 ?_
 refine Z4 ?_
 refine aE [0,2,1,3,4,5,6] (by decide) ?_
 exact Tm (true) (ij H)
 revert H;refine I5z (fun c6 H=>?_) fun c6 H=>?_
 refine Z11 ?_
 refine aE [0,2,1,3,4,5,6] (by decide) ?_
 exact Tm (true) (ij H)
 revert H;refine I5z (fun c7 H=>?_) fun c7 H=>?_
 refine Z6 ?_
 refine aE [0,2,1,3,4,5,6] (by decide) ?_
 exact Tm (true) (ij H)
 refine Z6 ?_
 refine aE [0,2,1,3,4,5,6] (by decide) ?_
 exact Tm (decide (y5.Op=8)) (ij H)
 rintro x1 hi;subst o1;replace H:=Hr1;clear Hr1;try dsimp only at H ⊢
 revert H;refine bs fun o2 H Hr2=>?_
 refine aO (ι:=Unit) (fun i=>o2=Sum.inl ()) (fun i=>[(0,fEq (ptr p0)),(1,fI a1),(2,fSl tI a2),(3,fI a3),(8,fEq (ptr b1))]) (fun i=>[aA b1 54 [fI y5.Op,fI y5.N,fSl aN y5.AX,fSl tI y5.AM,fSl tI y5.AI],aA p0 118 [fSl aD a0.f.AF,fSl tI a0.f.AI,fSl aW a0.f.AB,fSl aB a0.f.AD,fI a0.f.AG,fEq v1,fEq v2,fEq v3,fEq v4,fSl aD a0.p.AF,fEq v5,fSl aB a0.p.AD,fI a0.p.AG,aH a0.bad],aC v1 4 aR (a0.AP.set a1.toNat true),aC v2 27 (tSl tI) (a0.AY.set a1.toNat a2),aC v3 3 tI (a0.Aa.set a1.toNat a3),aC v4 27 (tSl tI) a0.AU,aC v5 65 aJ a0.p.AB]) ?_ ?_
 revert H;refine B5z fun y6 h6 H=>?_
 refine Tc (aEd _ _ _ _ h6) ?_
 refine Z2 ?_
 revert H;refine cs (fun c8 H=>?_) fun c8 H=>?_
 refine Z3 ?_
 refine cR (⟨_,_,_,_,rfl,rfl,rfl,nu⟩) rfl rfl ?_
 refine cR (⟨_,_,_,_,rfl,rfl,rfl,nu⟩) rfl rfl ?_
 refine cR (⟨_,_,_,_,rfl,rfl,rfl,nu⟩) rfl rfl ?_
 refine cR (⟨_,_,_,_,rfl,rfl,rfl,nu⟩) rfl rfl ?_
 refine Z12 ?_
 refine Z8 ?_
 refine bH ?_
 refine bK (φs':=[fSl aD a0.f.AF,fSl tI a0.f.AI,fSl aW a0.f.AB,fSl aB a0.f.AD,fI a0.f.AG,fEq v1,fEq v2,fEq v3,fEq v4,fSl aD a0.p.AF,fEq v5,fSl aB a0.p.AD,fI a0.p.AG,aH true]) a1F rfl rfl (has rfl) (has rfl) (aF a1F) (sz rfl) rfl rfl ?_
 revert H;refine B2z fun r1 H e1=>?_
 cases e1;cases Hr2
 refine aV ?_
 refine aV ?_
 refine aV ?_
 refine aV ?_
 refine aV ?_
 refine cP ?_
 refine fC ?_
 cases H
 refine aE [0] (by decide) ?_
 exact dH (.inl rfl) rfl rfl
 refine Z3 ?_
 revert H;refine cs (fun c9 H=>?_) fun c9 H=>?_
 revert H;refine I7z (fun c10 H=>?_) fun c10 H=>?_
 refine Z12 ?_
 refine Z5 ?_
 refine bH ?_
 refine bK (φs':=[fSl aD a0.f.AF,fSl tI a0.f.AI,fSl aW a0.f.AB,fSl aB a0.f.AD,fI a0.f.AG,fEq v1,fEq v2,fEq v3,fEq v4,fSl aD a0.p.AF,fEq v5,fSl aB a0.p.AD,fI a0.p.AG,aH true]) a1F rfl rfl (has rfl) (has rfl) (aF a1F) (sz rfl) rfl rfl ?_
 revert H;refine B2z fun r2 H e2=>?_
 cases e2;cases Hr2
 refine aV ?_
 refine aV ?_
 refine aV ?_
 refine aV ?_
 refine aV ?_
 refine cP ?_
 refine fC ?_
 cases H
 refine aE [0] (by decide) ?_
 exact dH (.inl rfl) rfl rfl
 revert H;refine I6z (fun c11 H=>?_) fun c11 H=>?_
 refine Z11 ?_
 refine bH ?_
 refine bK (φs':=[fSl aD a0.f.AF,fSl tI a0.f.AI,fSl aW a0.f.AB,fSl aB a0.f.AD,fI a0.f.AG,fEq v1,fEq v2,fEq v3,fEq v4,fSl aD a0.p.AF,fEq v5,fSl aB a0.p.AD,fI a0.p.AG,aH true]) a1F rfl rfl (has rfl) (has rfl) (aF a1F) (sz rfl) rfl rfl ?_
 revert H;refine B2z fun r3 H e3=>?_
 cases e3;cases Hr2
 refine aV ?_
 refine aV ?_
 refine aV ?_
 refine aV ?_
 refine aV ?_
 refine cP ?_
 refine fC ?_
 cases H
 refine aE [0] (by decide) ?_
 exact dH (.inl rfl) rfl rfl
 revert H;refine I6z (fun c12 H=>?_) fun c12 H=>?_
 refine Z5 ?_
 refine bH ?_
 refine bK (φs':=[fSl aD a0.f.AF,fSl tI a0.f.AI,fSl aW a0.f.AB,fSl aB a0.f.AD,fI a0.f.AG,fEq v1,fEq v2,fEq v3,fEq v4,fSl aD a0.p.AF,fEq v5,fSl aB a0.p.AD,fI a0.p.AG,aH true]) a1F rfl rfl (has rfl) (has rfl) (aF a1F) (sz rfl) rfl rfl ?_
 revert H;refine B2z fun r4 H e4=>?_
 cases e4;cases Hr2
 refine aV ?_
 refine aV ?_
 refine aV ?_
 refine aV ?_
 refine aV ?_
 refine cP ?_
 refine fC ?_
 cases H
 refine aE [0] (by decide) ?_
 exact dH (.inl rfl) rfl rfl
 refine Z3 ?_
 exact Tm (()) (ij H)
 refine Z12 ?_
 revert H;refine I1z (fun c13 H=>?_) fun c13 H=>?_
 refine Z11 ?_
 refine bH ?_
 refine bK (φs':=[fSl aD a0.f.AF,fSl tI a0.f.AI,fSl aW a0.f.AB,fSl aB a0.f.AD,fI a0.f.AG,fEq v1,fEq v2,fEq v3,fEq v4,fSl aD a0.p.AF,fEq v5,fSl aB a0.p.AD,fI a0.p.AG,aH true]) a1F rfl rfl (has rfl) (has rfl) (aF a1F) (sz rfl) rfl rfl ?_
 revert H;refine B2z fun r5 H e5=>?_
 cases e5;cases Hr2
 refine aV ?_
 refine aV ?_
 refine aV ?_
 refine aV ?_
 refine aV ?_
 refine cP ?_
 refine fC ?_
 cases H
 refine aE [0] (by decide) ?_
 exact dH (.inl rfl) rfl rfl
 revert H;refine I6z (fun c14 H=>?_) fun c14 H=>?_
 refine Z5 ?_
 refine bH ?_
 refine bK (φs':=[fSl aD a0.f.AF,fSl tI a0.f.AI,fSl aW a0.f.AB,fSl aB a0.f.AD,fI a0.f.AG,fEq v1,fEq v2,fEq v3,fEq v4,fSl aD a0.p.AF,fEq v5,fSl aB a0.p.AD,fI a0.p.AG,aH true]) a1F rfl rfl (has rfl) (has rfl) (aF a1F) (sz rfl) rfl rfl ?_
 revert H;refine B2z fun r6 H e6=>?_
 cases e6;cases Hr2
 refine aV ?_
 refine aV ?_
 refine aV ?_
 refine aV ?_
 refine aV ?_
 refine cP ?_
 refine fC ?_
 cases H
 refine aE [0] (by decide) ?_
 exact dH (.inl rfl) rfl rfl
 refine Z3 ?_
 exact Tm (()) (ij H)
 rintro i hi;subst o2;replace H:=Hr2;clear Hr2;try dsimp only at H ⊢
 refine B4 H fun y7 h7 H=>?_
 refine Tc (r07_at_w _ _ _ _ h7) ?_
 refine B9 H fun y8 h8 H=>?_
 refine Z1 ?_
 refine cP ?_
 refine wO (z':=y7) a1F rfl rfl rfl (has rfl) (has rfl) (aS) (sz rfl) (dN h8) rfl rfl ?_
 refine Z1 ?_
 refine aG ?_
 refine bz H fun z1 h9 H=>?_
 apply bD (ods:=[_,_,_,_,_,_,_,_,_,_]) 10 1 8 bC rfl rfl rfl
 refine ND ?_
 refine M6 ?_
 intros
 refine aAt (od:=odC [] true (fSl tI z1) []) rfl (fun _=>rfl) a1F rfl rfl (has rfl) (has rfl) (et rfl) rfl h9 (fun _=>?_)
 refine My (gL (ψs:=[fI y5.Op,fI y5.N,fEq (.slice none 0 0),fSl tI z1]) rfl aEb rfl (bW.cons (has rfl) (cL (aF a1F)) (bW.cons (has rfl) (cL (aF a1F)) (bW.cons (has rfl) (cL (aS)) bW.nil))) rfl) fun _=>?_
 refine Mn 7 (fun b2=>ptr b2) (fun b2=>aA b2 65 [fI 0,fI 0,fEq (.slice none 0 0),fEq (.slice none 0 0)]) rfl (cB rfl jV rfl) (fun b2 u1=>?_)
 refine mS (od:=od1 8 [7] true (fun b2 _=>dP) (fun b2 _=>[aA b2 65 [fI y5.Op,fI y5.N,fEq (.slice none 0 0),fSl tI z1]])) (p:=7) (φs':=[fI y5.Op,fI y5.N,fEq (.slice none 0 0),fSl tI z1]) rfl (fun _=>rfl) (fun _=>rfl) a1F rfl rfl rfl (has rfl) (has rfl) (aI (aF a1F) (aI (aF a1F) (aI (aF a1F) (aI (aS) bN)))) (sz rfl) rfl rfl rfl (fun _=>?_)
 revert H;refine B2z fun o3 H Hr3=>?_
 refine aO (ι:=List AV × Value) (fun i=>o3=Sum.inl i.1) (fun i=>[(0,fEq (ptr p0)),(1,fI a1),(2,fSl tI a2),(3,fI a3),(8,fEq (ptr b1)),(10,fSl tI y7),(11,fEq (ptr b2))]) (fun i=>[aA b1 54 [fI y5.Op,fI y5.N,fSl aN y5.AX,fSl tI y5.AM,fSl tI y5.AI],aA p0 118 [fSl aD a0.f.AF,fSl tI a0.f.AI,fSl aW a0.f.AB,fSl aB a0.f.AD,fI a0.f.AG,fEq v1,fEq v2,fEq v3,fEq v4,fSl aD a0.p.AF,fEq v5,fSl aB a0.p.AD,fI a0.p.AG,aH a0.bad],aA b2 65 [fI y5.Op,fI y5.N,fEq i.2,fSl tI z1],aC v1 4 aR (a0.AP.set a1.toNat true),aC v2 27 (tSl tI) (a0.AY.set a1.toNat a2),aC v3 3 tI (a0.Aa.set a1.toNat a3),aC v4 27 (tSl tI) (a0.AU.set a1.toNat y7),aC v5 65 aJ a0.p.AB,aC i.2 71 aN i.1]) ?_ ?_
 refine Z4 ?_
 refine fH aN 71 ?_
 refine aE [2,3,8,4,5,6,1,7,0] (by decide) ?_
 refine Th (ι:=Int × List AV × Value) (fun i=>pN AA a0 a1 a2 a3 y5 y7 i.1 i.2.1 i.2.2.1=_) (fun i=>[(0,fEq (ptr p0)),(1,fI a1),(2,fSl tI a2),(3,fI a3),(8,fEq (ptr b1)),(10,fSl tI y7),(11,fEq (ptr b2)),(12,fI i.2.1)]) (fun i=>[aA b1 54 [fI y5.Op,fI y5.N,fSl aN y5.AX,fSl tI y5.AM,fSl tI y5.AI],aA p0 118 [fSl aD a0.f.AF,fSl tI a0.f.AI,fSl aW a0.f.AB,fSl aB a0.f.AD,fI a0.f.AG,fEq v1,fEq v2,fEq v3,fEq v4,fSl aD a0.p.AF,fEq v5,fSl aB a0.p.AD,fI a0.p.AG,aH a0.bad],aA b2 65 [fI y5.Op,fI y5.N,fEq i.2.2.2,fSl tI z1],aC v1 4 aR (a0.AP.set a1.toNat true),aC v2 27 (tSl tI) (a0.AY.set a1.toNat a2),aC v3 3 tI (a0.Aa.set a1.toNat a3),aC v4 27 (tSl tI) (a0.AU.set a1.toNat y7),aC v5 65 aJ a0.p.AB,aC i.2.2.2 71 aN i.2.2.1]) (AA,0,[],(.slice none 0 0)) H (fun _ h=>nomatch h) ?_
 clear H;rintro k1 ⟨x5,x6,v8⟩ H;dsimp only at H ⊢;rw [pN]at H
 refine rc 8 fun hc_v8=>?_
 refine aG ?_
 revert H;refine I7z (fun c15 H=>?_) fun c15 H=>?_
 refine Z3 ?_
 refine aG ?_
 refine Z1 ?_
 refine aG ?_
 revert H;refine B4z fun y9 h10 H=>?_
 refine Yy (cT rfl hh hh (el rfl) h10) ?_
 revert H;refine B3z fun y10 h11 H=>?_
 refine Tc (aFq _ _ _ _ h11) ?_
 refine Z2 ?_
 revert H;refine cs (fun c16 H=>?_) fun c16 H=>?_
 revert H;refine B3z fun y11 h12 H=>?_
 revert H;refine bs fun y12 h13 H=>?_
 apply bD (ods:=[_,_,_,_,_,_,_,_,_,_]) 10 0 9 bC rfl rfl rfl
 refine ND ?_
 refine M8 ?_
 intros
 refine Nc (aKI _ _ _ _ h13) fun _=>?_
 refine Mf (φ:=fSl aN [y12]) (eQ (t:=aN) (xs:=[y12]) rfl (et rfl) (bY.cons rfl (has rfl) bM bY.nil) rfl rfl rfl) (fun b=>cM) fun _=>?_
 revert H;refine B1z fun z2 h14 H=>?_
 refine T_fr8 ?_
 refine iX (ys:=[y12]) a1F rfl rfl rfl (has rfl) (has rfl) (et rfl) rfl h14 (fun v10=>?_)
 refine rc 0 fun hc_v10=>?_
 refine Z1 ?_
 refine cZ ?_
 refine bK (φs':=[fI y5.Op,fI y5.N,fEq v10,fSl tI z1]) a1F rfl rfl (has rfl) (has rfl) (aF hc_v10) (sz rfl) rfl rfl ?_
 revert H;refine B5z fun z3 h15 H=>?_
 refine Z3 ?_
 refine aE [2,3,0,4,5,6,7,8,1] (by decide) ?_
 exact Tm ((k1,z3,z2,v10)) ⟨H,ls⟩
 exact fk
 kernel_rfl
 refine Z5 ?_
 refine bH ?_
 refine bK (φs':=[fSl aD a0.f.AF,fSl tI a0.f.AI,fSl aW a0.f.AB,fSl aB a0.f.AD,fI a0.f.AG,fEq v1,fEq v2,fEq v3,fEq v4,fSl aD a0.p.AF,fEq v5,fSl aB a0.p.AD,fI a0.p.AG,aH true]) a1F rfl rfl (has rfl) (has rfl) (aF a1F) (sz rfl) rfl rfl ?_
 revert H;refine B7z fun r7 H e7=>?_
 cases e7;cases Hr3
 refine dI ?_
 refine dI ?_
 refine dI ?_
 refine dI ?_
 refine dI ?_
 refine cP ?_
 refine fC ?_
 cases H
 refine aE [0] (by decide) ?_
 exact dH (.inl rfl) rfl rfl
 refine Z6 ?_
 exact Tm ((x6,v8)) (ij H)
 rintro⟨x2,v6⟩ hi;subst o3;replace H:=Hr3;clear Hr3;try dsimp only at H ⊢
 refine rc 8 fun hc_v6=>?_
 revert H;refine B4z fun o4 H Hr4=>?_
 refine aO (ι:=Int × List Int × List ByteArray × List Int × List Ao × List AN × Int × List Bool × List (List Int) × List Int × List (List Int) × List ByteArray × List AZ × List AN × Int × Bool × Int × Value × Value × Value × Value × Value) (fun i=>o4=(i.1,i.2.1,i.2.2.1,i.2.2.2.1,i.2.2.2.2.1,i.2.2.2.2.2.1,i.2.2.2.2.2.2.1,i.2.2.2.2.2.2.2.1,i.2.2.2.2.2.2.2.2.1,i.2.2.2.2.2.2.2.2.2.1,i.2.2.2.2.2.2.2.2.2.2.1,i.2.2.2.2.2.2.2.2.2.2.2.1,i.2.2.2.2.2.2.2.2.2.2.2.2.1,i.2.2.2.2.2.2.2.2.2.2.2.2.2.1,i.2.2.2.2.2.2.2.2.2.2.2.2.2.2.1,i.2.2.2.2.2.2.2.2.2.2.2.2.2.2.2.1,i.2.2.2.2.2.2.2.2.2.2.2.2.2.2.2.2.1)) (fun i=>[(0,fEq (ptr p0)),(1,fI a1),(3,fI i.1),(8,fEq (ptr b1)),(11,fEq (ptr b2)),(13,fSl tI i.2.1)]) (fun i=>[aA p0 118 [fSl aD i.2.2.1,fSl tI i.2.2.2.1,fSl aW i.2.2.2.2.1,fSl aB i.2.2.2.2.2.1,fI i.2.2.2.2.2.2.1,fEq i.2.2.2.2.2.2.2.2.2.2.2.2.2.2.2.2.2.1,fEq i.2.2.2.2.2.2.2.2.2.2.2.2.2.2.2.2.2.2.1,fEq i.2.2.2.2.2.2.2.2.2.2.2.2.2.2.2.2.2.2.2.1,fEq i.2.2.2.2.2.2.2.2.2.2.2.2.2.2.2.2.2.2.2.2.1,fSl aD i.2.2.2.2.2.2.2.2.2.2.2.1,fEq i.2.2.2.2.2.2.2.2.2.2.2.2.2.2.2.2.2.2.2.2.2,fSl aB i.2.2.2.2.2.2.2.2.2.2.2.2.2.1,fI i.2.2.2.2.2.2.2.2.2.2.2.2.2.2.1,aH i.2.2.2.2.2.2.2.2.2.2.2.2.2.2.2.1],aA b1 54 [fI y5.Op,fI y5.N,fSl aN y5.AX,fSl tI y5.AM,fSl tI y5.AI],aA b2 65 [fI y5.Op,fI i.2.2.2.2.2.2.2.2.2.2.2.2.2.2.2.2.1,fEq v6,fSl tI z1],aC i.2.2.2.2.2.2.2.2.2.2.2.2.2.2.2.2.2.1 4 aR i.2.2.2.2.2.2.2.1,aC i.2.2.2.2.2.2.2.2.2.2.2.2.2.2.2.2.2.2.1 27 (tSl tI) i.2.2.2.2.2.2.2.2.1,aC i.2.2.2.2.2.2.2.2.2.2.2.2.2.2.2.2.2.2.2.1 3 tI i.2.2.2.2.2.2.2.2.2.1,aC i.2.2.2.2.2.2.2.2.2.2.2.2.2.2.2.2.2.2.2.2.1 27 (tSl tI) i.2.2.2.2.2.2.2.2.2.2.1,aC i.2.2.2.2.2.2.2.2.2.2.2.2.2.2.2.2.2.2.2.2.2 65 aJ i.2.2.2.2.2.2.2.2.2.2.2.2.1,aC v6 71 aN x2]) ?_ ?_
 revert H;refine I9z (fun c17 H=>?_) fun c17 H=>?_
 revert H;refine B1z fun o5 H Hr5=>?_
 refine aO (fun i=>o5=i) (fun i=>[(0,fEq (ptr p0)),(1,fI a1),(2,fSl tI a2),(3,fI a3),(8,fEq (ptr b1)),(11,fEq (ptr b2)),(13,fSl tI a2)]) (fun i=>[aA p0 118 [fSl aD a0.f.AF,fSl tI a0.f.AI,fSl aW a0.f.AB,fSl aB a0.f.AD,fI a0.f.AG,fEq v1,fEq v2,fEq v3,fEq v4,fSl aD a0.p.AF,fEq v5,fSl aB a0.p.AD,fI a0.p.AG,aH i],aA b1 54 [fI y5.Op,fI y5.N,fSl aN y5.AX,fSl tI y5.AM,fSl tI y5.AI],aA b2 65 [fI y5.Op,fI y5.N,fEq v6,fSl tI z1],aC v1 4 aR (a0.AP.set a1.toNat true),aC v2 27 (tSl tI) (a0.AY.set a1.toNat a2),aC v3 3 tI (a0.Aa.set a1.toNat a3),aC v4 27 (tSl tI) (a0.AU.set a1.toNat y7),aC v5 65 aJ a0.p.AB,aC v6 71 aN x2]) ?_ ?_
 revert H;refine I6z (fun c18 H=>?_) fun c18 H=>?_
 refine Z8 ?_
 refine bH ?_
 refine bK (φs':=[fSl aD a0.f.AF,fSl tI a0.f.AI,fSl aW a0.f.AB,fSl aB a0.f.AD,fI a0.f.AG,fEq v1,fEq v2,fEq v3,fEq v4,fSl aD a0.p.AF,fEq v5,fSl aB a0.p.AD,fI a0.p.AG,aH true]) a1F rfl rfl (has rfl) (has rfl) (aF a1F) (sz rfl) rfl rfl ?_
 refine Z1 ?_
 exact Tm (true) (ij H)
 refine Z8 ?_
 refine bH ?_
 refine bK (φs':=[fSl aD a0.f.AF,fSl tI a0.f.AI,fSl aW a0.f.AB,fSl aB a0.f.AD,fI a0.f.AG,fEq v1,fEq v2,fEq v3,fEq v4,fSl aD a0.p.AF,fEq v5,fSl aB a0.p.AD,fI a0.p.AG,aH (decide ((a2.length:Int)<=y5.N))]) a1F rfl rfl (has rfl) (has rfl) (aF a1F) (sz rfl) rfl rfl ?_
 refine Z1 ?_
 exact Tm (decide ((a2.length:Int)<=y5.N)) (ij H)
 rintro x24 hi;subst o5;replace H:=Hr5;clear Hr5;try dsimp only at H ⊢
 refine Z7 ?_
 revert H;refine cs (fun c19 H=>?_) fun c19 H=>?_
 refine Z4 ?_
 exact Tm ((a3,a2,a0.f.AF,a0.f.AI,a0.f.AB,a0.f.AD,a0.f.AG,a0.AP.set a1.toNat true,a0.AY.set a1.toNat a2,a0.Aa.set a1.toNat a3,a0.AU.set a1.toNat y7,a0.p.AF,a0.p.AB,a0.p.AD,a0.p.AG,x24,y5.N,v1,v2,v3,v4,v5)) (ij H)
 revert H;refine B5z fun y13 h16 H=>?_
 refine Z3 ?_
 refine dK ?_
 refine bK (φs':=[fI y5.Op,fI y13,fEq v6,fSl tI z1]) a1F rfl rfl (has rfl) (has rfl) (aF a1F) (sz rfl) rfl rfl ?_
 refine Z3 ?_
 refine aE [1,2,0,3,4,5,6,7,8] (by decide) ?_
 exact Tm ((a3,a2,a0.f.AF,a0.f.AI,a0.f.AB,a0.f.AD,a0.f.AG,a0.AP.set a1.toNat true,a0.AY.set a1.toNat a2,a0.Aa.set a1.toNat a3,a0.AU.set a1.toNat y7,a0.p.AF,a0.p.AB,a0.p.AD,a0.p.AG,x24,y13,v1,v2,v3,v4,v5)) (ij H)
 revert H;refine B1z fun o6 H Hr6=>?_
 refine aO (fun i=>o6=i) (fun i=>[(0,fEq (ptr p0)),(1,fI a1),(2,fSl tI a2),(3,fI a3),(8,fEq (ptr b1)),(10,fSl tI y7),(11,fEq (ptr b2)),(13,fSl tI a2),(175,fI y5.Op),(202,aH i)]) (fun i=>[aA b1 54 [fI y5.Op,fI y5.N,fSl aN y5.AX,fSl tI y5.AM,fSl tI y5.AI],aA p0 118 [fSl aD a0.f.AF,fSl tI a0.f.AI,fSl aW a0.f.AB,fSl aB a0.f.AD,fI a0.f.AG,fEq v1,fEq v2,fEq v3,fEq v4,fSl aD a0.p.AF,fEq v5,fSl aB a0.p.AD,fI a0.p.AG,aH a0.bad],aA b2 65 [fI y5.Op,fI y5.N,fEq v6,fSl tI z1],aC v1 4 aR (a0.AP.set a1.toNat true),aC v2 27 (tSl tI) (a0.AY.set a1.toNat a2),aC v3 3 tI (a0.Aa.set a1.toNat a3),aC v4 27 (tSl tI) (a0.AU.set a1.toNat y7),aC v5 65 aJ a0.p.AB,aC v6 71 aN x2]) ?_ ?_
 revert H;refine I4z (fun c20 H=>?_) fun c20 H=>?_
 refine Z3 ?_
 exact Tm (decide (y5.Op=6)) (ij H)
 refine Z5 ?_
 exact Tm (decide (y5.Op=8)) (ij H)
 rintro x25 hi;subst o6;replace H:=Hr6;clear Hr6;try dsimp only at H ⊢
 revert H;refine cs (fun c21 H=>?_) fun c21 H=>?_
 revert H;refine B1z fun o7 H Hr7=>?_
 refine aO (fun i=>o7=i) (fun i=>[(0,fEq (ptr p0)),(1,fI a1),(3,fI a3),(8,fEq (ptr b1)),(10,fSl tI y7),(11,fEq (ptr b2))]) (fun i=>[aA p0 118 [fSl aD a0.f.AF,fSl tI a0.f.AI,fSl aW a0.f.AB,fSl aB a0.f.AD,fI a0.f.AG,fEq v1,fEq v2,fEq v3,fEq v4,fSl aD a0.p.AF,fEq v5,fSl aB a0.p.AD,fI a0.p.AG,aH i],aA b1 54 [fI y5.Op,fI y5.N,fSl aN y5.AX,fSl tI y5.AM,fSl tI y5.AI],aA b2 65 [fI y5.Op,fI y5.N,fEq v6,fSl tI z1],aC v1 4 aR (a0.AP.set a1.toNat true),aC v2 27 (tSl tI) (a0.AY.set a1.toNat a2),aC v3 3 tI (a0.Aa.set a1.toNat a3),aC v4 27 (tSl tI) (a0.AU.set a1.toNat y7),aC v5 65 aJ a0.p.AB,aC v6 71 aN x2]) ?_ ?_
 revert H;refine I6z (fun c22 H=>?_) fun c22 H=>?_
 refine Z8 ?_
 refine bH ?_
 refine bK (φs':=[fSl aD a0.f.AF,fSl tI a0.f.AI,fSl aW a0.f.AB,fSl aB a0.f.AD,fI a0.f.AG,fEq v1,fEq v2,fEq v3,fEq v4,fSl aD a0.p.AF,fEq v5,fSl aB a0.p.AD,fI a0.p.AG,aH true]) a1F rfl rfl (has rfl) (has rfl) (aF a1F) (sz rfl) rfl rfl ?_
 refine Z1 ?_
 exact Tm (true) (ij H)
 refine Z8 ?_
 refine bH ?_
 refine bK (φs':=[fSl aD a0.f.AF,fSl tI a0.f.AI,fSl aW a0.f.AB,fSl aB a0.f.AD,fI a0.f.AG,fEq v1,fEq v2,fEq v3,fEq v4,fSl aD a0.p.AF,fEq v5,fSl aB a0.p.AD,fI a0.p.AG,aH (decide ((y7.length:Int)<=y5.N))]) a1F rfl rfl (has rfl) (has rfl) (aF a1F) (sz rfl) rfl rfl ?_
 refine Z1 ?_
 exact Tm (decide ((y7.length:Int)<=y5.N)) (ij H)
 rintro x26 hi;subst o7;replace H:=Hr7;clear Hr7;try dsimp only at H ⊢
 revert H;refine bs fun o8 H Hr8=>?_
 refine aO (fun i=>o8=i) (fun i=>[(0,fEq (ptr p0)),(1,fI a1),(3,fI a3),(8,fEq (ptr b1)),(10,fSl tI y7),(11,fEq (ptr b2))]) (fun i=>[aA p0 118 [fSl aD a0.f.AF,fSl tI a0.f.AI,fSl aW a0.f.AB,fSl aB a0.f.AD,fI a0.f.AG,fEq v1,fEq v2,fEq v3,fEq v4,fSl aD a0.p.AF,fEq v5,fSl aB a0.p.AD,fI a0.p.AG,aH x26],aA b1 54 [fI y5.Op,fI y5.N,fSl aN y5.AX,fSl tI y5.AM,fSl tI y5.AI],aA b2 65 [fI y5.Op,fI i,fEq v6,fSl tI z1],aC v1 4 aR (a0.AP.set a1.toNat true),aC v2 27 (tSl tI) (a0.AY.set a1.toNat a2),aC v3 3 tI (a0.Aa.set a1.toNat a3),aC v4 27 (tSl tI) (a0.AU.set a1.toNat y7),aC v5 65 aJ a0.p.AB,aC v6 71 aN x2]) ?_ ?_
 refine Z7 ?_
 revert H;refine cs (fun c23 H=>?_) fun c23 H=>?_
 refine Z3 ?_
 exact Tm (y5.N) (ij H)
 revert H;refine B5z fun y14 h17 H=>?_
 refine Z3 ?_
 refine dK ?_
 refine bK (φs':=[fI y5.Op,fI y14,fEq v6,fSl tI z1]) a1F rfl rfl (has rfl) (has rfl) (aF a1F) (sz rfl) rfl rfl ?_
 refine Z1 ?_
 refine aE [1,2,0,3,4,5,6,7,8] (by decide) ?_
 exact Tm (y14) (ij H)
 rintro x27 hi;subst o8;replace H:=Hr8;clear Hr8;try dsimp only at H ⊢
 refine Z6 ?_
 exact Tm ((a3,y7,a0.f.AF,a0.f.AI,a0.f.AB,a0.f.AD,a0.f.AG,a0.AP.set a1.toNat true,a0.AY.set a1.toNat a2,a0.Aa.set a1.toNat a3,a0.AU.set a1.toNat y7,a0.p.AF,a0.p.AB,a0.p.AD,a0.p.AG,x26,x27,v1,v2,v3,v4,v5)) (ij H)
 revert H;refine I5z (fun c24 H=>?_) fun c24 H=>?_
 revert H;refine B1z fun o9 H Hr9=>?_
 refine aO (fun i=>o9=i) (fun i=>[(0,fEq (ptr p0)),(1,fI a1),(2,fSl tI a2),(3,fI a3),(8,fEq (ptr b1)),(10,fSl tI y7),(11,fEq (ptr b2)),(13,fSl tI a2)]) (fun i=>[aA b1 54 [fI y5.Op,fI y5.N,fSl aN y5.AX,fSl tI y5.AM,fSl tI y5.AI],aA p0 118 [fSl aD a0.f.AF,fSl tI a0.f.AI,fSl aW a0.f.AB,fSl aB a0.f.AD,fI a0.f.AG,fEq v1,fEq v2,fEq v3,fEq v4,fSl aD a0.p.AF,fEq v5,fSl aB a0.p.AD,fI a0.p.AG,aH i],aA b2 65 [fI y5.Op,fI y5.N,fEq v6,fSl tI z1],aC v1 4 aR (a0.AP.set a1.toNat true),aC v2 27 (tSl tI) (a0.AY.set a1.toNat a2),aC v3 3 tI (a0.Aa.set a1.toNat a3),aC v4 27 (tSl tI) (a0.AU.set a1.toNat y7),aC v5 65 aJ a0.p.AB,aC v6 71 aN x2]) ?_ ?_
 revert H;refine is (fun c25 H=>?_) fun c25 H=>?_
 apply bD (ods:=[_,_,_,_,_,_,_,_,_,_,_,_,_,_,_,_,_,_]) 18 0 9 bC rfl rfl rfl
 refine ND ?_
 refine M8 ?_
 intros
 refine M8 ?_
 intros
 refine M1 ?_
 intros
 refine nO (od:=odC [1] true (dP) [aA p0 118 [fSl aD a0.f.AF,fSl tI a0.f.AI,fSl aW a0.f.AB,fSl aB a0.f.AD,fI a0.f.AG,fEq v1,fEq v2,fEq v3,fEq v4,fSl aD a0.p.AF,fEq v5,fSl aB a0.p.AD,fI a0.p.AG,aH true]]) (p:=1) (φs':=[fSl aD a0.f.AF,fSl tI a0.f.AI,fSl aW a0.f.AB,fSl aB a0.f.AD,fI a0.f.AG,fEq v1,fEq v2,fEq v3,fEq v4,fSl aD a0.p.AF,fEq v5,fSl aB a0.p.AD,fI a0.p.AG,aH true]) rfl (fun _=>rfl) (fun _=>rfl) a1F rfl rfl rfl (has rfl) (has rfl) (aF a1F) (sz rfl) rfl rfl (fun _=>?_)
 refine Z2 ?_
 exact Tm (true) (ij H)
 exact fk
 kernel_rfl
 apply bD (ods:=[_,_,_,_,_,_,_,_,_,_,_,_,_,_,_,_,_,_]) 18 0 9 bC rfl rfl rfl
 refine ND ?_
 refine M8 ?_
 intros
 refine M8 ?_
 intros
 refine M1 ?_
 intros
 refine nO (od:=odC [1] true (dP) [aA p0 118 [fSl aD a0.f.AF,fSl tI a0.f.AI,fSl aW a0.f.AB,fSl aB a0.f.AD,fI a0.f.AG,fEq v1,fEq v2,fEq v3,fEq v4,fSl aD a0.p.AF,fEq v5,fSl aB a0.p.AD,fI a0.p.AG,aH (decide ((a0.f.AD.length:Int)<=y5.N))]]) (p:=1) (φs':=[fSl aD a0.f.AF,fSl tI a0.f.AI,fSl aW a0.f.AB,fSl aB a0.f.AD,fI a0.f.AG,fEq v1,fEq v2,fEq v3,fEq v4,fSl aD a0.p.AF,fEq v5,fSl aB a0.p.AD,fI a0.p.AG,aH (decide ((a0.f.AD.length:Int)<=y5.N))]) rfl (fun _=>rfl) (fun _=>rfl) a1F rfl rfl rfl (has rfl) (has rfl) (aF a1F) (sz rfl) rfl rfl (fun _=>?_)
 refine Z2 ?_
 exact Tm (decide ((a0.f.AD.length:Int)<=y5.N)) (ij H)
 exact fk
 kernel_rfl
 rintro x28 hi;subst o9;replace H:=Hr9;clear Hr9;try dsimp only at H ⊢
 refine Z7 ?_
 revert H;refine cs (fun c26 H=>?_) fun c26 H=>?_
 refine Z4 ?_
 refine aE [1,0,2,3,4,5,6,7,8] (by decide) ?_
 exact Tm ((a3,a2,a0.f.AF,a0.f.AI,a0.f.AB,a0.f.AD,a0.f.AG,a0.AP.set a1.toNat true,a0.AY.set a1.toNat a2,a0.Aa.set a1.toNat a3,a0.AU.set a1.toNat y7,a0.p.AF,a0.p.AB,a0.p.AD,a0.p.AG,x28,y5.N,v1,v2,v3,v4,v5)) (ij H)
 refine Z1 ?_
 refine aG ?_
 revert H;refine bs fun y15 h18 H=>?_
 apply bD (ods:=[_,_,_,_,_,_,_,_,_,_,_,_]) 12 0 9 bC rfl rfl rfl
 refine ND ?_
 refine M8 ?_
 intros
 refine M4 ?_
 intros
 refine Z1 ?_
 refine dI ?_
 refine dI ?_
 refine dI ?_
 refine dI ?_
 refine dI ?_
 refine aV ?_
 refine fC ?_
 revert H;refine bs fun y16 h19 H=>?_
 refine Tc (ih_r07_opener_define _ _ _ _ _ _ h19) ?_
 refine rX (fun v16 v17 v18 v19 v20=>?_)
 refine rc 1 fun hc_v16=>?_
 refine rc 2 fun hc_v17=>?_
 refine rc 3 fun hc_v18=>?_
 refine rc 4 fun hc_v19=>?_
 refine rc 5 fun hc_v20=>?_
 revert H;refine B6z fun y17 h20 H=>?_
 refine Tc (aDf _ _ _ _ _ h20) ?_
 revert H;refine B2z fun z4 h21 H=>?_
 refine Z6 ?_
 refine aE [0,6,7,1,2,3,4,5,8] (by decide) ?_
 exact Tm ((z4,y17,y16.1.f.AF,y16.1.f.AI,y16.1.f.AB,y16.1.f.AD,y16.1.f.AG,y16.1.AP,y16.1.AY,y16.1.Aa,y16.1.AU,y16.1.p.AF,y16.1.p.AB,y16.1.p.AD,y16.1.p.AG,y16.1.bad,y5.N,v16,v17,v18,v19,v20)) (ij H)
 exact fk
 kernel_rfl
 refine Z4 ?_
 refine aE [1,0,2,3,4,5,6,7,8] (by decide) ?_
 exact Tm ((a3,a2,a0.f.AF,a0.f.AI,a0.f.AB,a0.f.AD,a0.f.AG,a0.AP.set a1.toNat true,a0.AY.set a1.toNat a2,a0.Aa.set a1.toNat a3,a0.AU.set a1.toNat y7,a0.p.AF,a0.p.AB,a0.p.AD,a0.p.AG,a0.bad,y5.N,v1,v2,v3,v4,v5)) (ij H)
 rintro⟨x7,x8,x9,x10,x11,x12,x13,x14,x15,x16,x17,x18,x19,x20,x21,x22,x23,v11,v12,v13,v14,v15⟩ hi;subst o4;replace H:=Hr4;clear Hr4;try dsimp only at H ⊢
 refine rc 3 fun _=>?_
 refine rc 4 fun _=>?_
 refine rc 5 fun _=>?_
 refine rc 6 fun _=>?_
 refine rc 7 fun _=>?_
 refine aG ?_
 refine bz H fun y18 h22 H=>?_
 apply bD (ods:=[_,_,_,_,_,_,_,_]) 8 0 9 bC rfl rfl rfl
 refine ND ?_
 refine M8 ?_
 intros
 refine Z1 ?_
 refine T_fr8 ?_
 refine bT (φ:=fSl aN x2) (v:=v6) [] cM (fun _ h=>nomatch h) ?_
 refine cZ ?_
 refine bH ?_
 refine dO (φs':=[fI y5.Op,fI x23,fSl aN x2,fSl tI z1]) (i:=2) rfl rfl ?_
 refine lN 280 (ψ:=eC [fI y5.Op,fI x23,fEq v6,fSl tI z1]) rfl (lA (i:=2) (φs:=[fI y5.Op,fI x23,fEq v6,fSl tI z1]) (φs':=[fI y5.Op,fI x23,fSl aN x2,fSl tI z1]) rfl rfl) ?_
 refine bQ ?_
 refine dI ?_
 refine aGY (z:=(⟨y5.Op,x23,x2,z1⟩:AZ)) a1F rfl rfl rfl (has rfl) (has rfl) (sz rfl) (a0z.1 (dN h22)).1 ?_
 refine Z5 ?_
 refine aE [1,2,3,4,5,6,7,0] (by decide) ?_
 refine Th (ι:=Int × List ByteArray × List Int × List Ao × List AN × Int × List Bool × List (List Int) × List Int × List (List Int) × List ByteArray × List AZ × List AN × Int × Bool × Value × Value × Value × Value × Value) (fun i=>iK (eE AA) y5 x7 x8 i.1 i.2.1 i.2.2.1 i.2.2.2.1 i.2.2.2.2.1 i.2.2.2.2.2.1 i.2.2.2.2.2.2.1 i.2.2.2.2.2.2.2.1 i.2.2.2.2.2.2.2.2.1 i.2.2.2.2.2.2.2.2.2.1 i.2.2.2.2.2.2.2.2.2.2.1 i.2.2.2.2.2.2.2.2.2.2.2.1 i.2.2.2.2.2.2.2.2.2.2.2.2.1 i.2.2.2.2.2.2.2.2.2.2.2.2.2.1 i.2.2.2.2.2.2.2.2.2.2.2.2.2.2.1 i.2.2.2.2.2.2.2.2.2.2.2.2.2.2.2.1=_) (fun i=>[(0,fEq (ptr p0)),(3,fI x7),(8,fEq (ptr b1)),(13,fSl tI x8),(15,fI i.2.1)]) (fun i=>[aA b2 65 [fI y5.Op,fI x23,fSl aN x2,fSl tI z1],aA p0 118 [fSl aD i.2.2.1,fSl tI i.2.2.2.1,fSl aW i.2.2.2.2.1,fSl aB i.2.2.2.2.2.1,fI i.2.2.2.2.2.2.1,fEq i.2.2.2.2.2.2.2.2.2.2.2.2.2.2.2.2.1,fEq i.2.2.2.2.2.2.2.2.2.2.2.2.2.2.2.2.2.1,fEq i.2.2.2.2.2.2.2.2.2.2.2.2.2.2.2.2.2.2.1,fEq i.2.2.2.2.2.2.2.2.2.2.2.2.2.2.2.2.2.2.2.1,fSl aD i.2.2.2.2.2.2.2.2.2.2.2.1,fEq i.2.2.2.2.2.2.2.2.2.2.2.2.2.2.2.2.2.2.2.2,fSl aB i.2.2.2.2.2.2.2.2.2.2.2.2.2.1,fI i.2.2.2.2.2.2.2.2.2.2.2.2.2.2.1,aH i.2.2.2.2.2.2.2.2.2.2.2.2.2.2.2.1],aA b1 54 [fI y5.Op,fI y5.N,fSl aN y5.AX,fSl tI y5.AM,fSl tI y5.AI],aC i.2.2.2.2.2.2.2.2.2.2.2.2.2.2.2.2.1 4 aR i.2.2.2.2.2.2.2.1,aC i.2.2.2.2.2.2.2.2.2.2.2.2.2.2.2.2.2.1 27 (tSl tI) i.2.2.2.2.2.2.2.2.1,aC i.2.2.2.2.2.2.2.2.2.2.2.2.2.2.2.2.2.2.1 3 tI i.2.2.2.2.2.2.2.2.2.1,aC i.2.2.2.2.2.2.2.2.2.2.2.2.2.2.2.2.2.2.2.1 27 (tSl tI) i.2.2.2.2.2.2.2.2.2.2.1,aC i.2.2.2.2.2.2.2.2.2.2.2.2.2.2.2.2.2.2.2.2 65 aJ i.2.2.2.2.2.2.2.2.2.2.2.2.1]) (AA,0,x9,x10,x11,x12,x13,x14,x15,x16,x17,x18,x19.set a1.toNat (⟨y5.Op,x23,x2,z1⟩:AZ),x20,x21,x22,v11,v12,v13,v14,v15) H (fun _ h=>nomatch h) ?_
 clear H;rintro k2 ⟨x44,x45,x46,x47,x48,x49,x50,x51,x52,x53,x54,x55,x56,x57,x58,v26,v27,v28,v29,v30⟩ H;dsimp only at H ⊢;rw [iK]at H
 refine rc 3 fun hc_v26=>?_
 refine rc 4 fun hc_v27=>?_
 refine rc 5 fun hc_v28=>?_
 refine rc 6 fun hc_v29=>?_
 refine rc 7 fun hc_v30=>?_
 refine aG ?_
 refine I7 H (fun c27 H=>?_) fun c27 H=>?_
 refine Z7 ?_
 refine cz H (fun c28 H=>?_) fun c28 H=>?_
 refine Z5 ?_
 refine dI ?_
 refine dI ?_
 refine dI ?_
 refine dI ?_
 refine dI ?_
 refine aV ?_
 refine fC ?_
 cases H
 refine aE [0] (by decide) ?_
 exact dH (.inr rfl) rfl rfl
 refine Z3 ?_
 refine aG ?_
 refine B6 H fun y19 h23 H=>?_
 refine Z4 ?_
 refine dI ?_
 refine dI ?_
 refine dI ?_
 refine dI ?_
 refine dI ?_
 refine aV ?_
 refine fC ?_
 refine bz H fun y20 h24 H=>?_
 refine Tc (ih_r07_opener_node _ _ _ _ _ _ h24) ?_
 refine rX (fun v31 v32 v33 v34 v35=>?_)
 refine rc 1 fun _=>?_
 refine rc 2 fun _=>?_
 refine rc 3 fun _=>?_
 refine rc 4 fun _=>?_
 refine rc 5 fun _=>?_
 refine B5 H fun z5 h25 H=>?_
 refine Z3 ?_
 refine aE [6,0,7,1,2,3,4,5] (by decide) ?_
 exact Tm ((k2,z5,y20.f.AF,y20.f.AI,y20.f.AB,y20.f.AD,y20.f.AG,y20.AP,y20.AY,y20.Aa,y20.AU,y20.p.AF,y20.p.AB,y20.p.AD,y20.p.AG,y20.bad,v31,v32,v33,v34,v35)) ⟨H,ls⟩
 refine Z12 ?_
 refine dI ?_
 refine dI ?_
 refine dI ?_
 refine dI ?_
 refine dI ?_
 refine aV ?_
 refine fC ?_
 cases H
 refine aE [0] (by decide) ?_
 exact dH (.inr rfl) rfl rfl
 exact fk
 kernel_rfl
 exact fk
 kernel_rfl
 exact fk
 kernel_rfl
 intro p0 a0 a1 a2 a3 r H
 rw [pK]at H
 refine bB Tryz.func115 rfl Tryz.ntmps115 rfl (fun β=>?_)
 refine rX (fun v1 v2 v3 v4 v5=>?_)
 refine rc 1 fun hc_v1=>?_
 refine rc 2 fun hc_v2=>?_
 refine rc 3 fun hc_v3=>?_
 refine rc 4 fun hc_v4=>?_
 refine rc 5 fun hc_v5=>?_
 refine Z1 ?_
 refine Tn (bU rfl hh bM) fun b1=>?_
 refine Z2 ?_
 refine aG ?_
 refine I6 H (fun c1 H=>?_) fun c1 H=>?_
 refine Z12 ?_
 refine Z5 ?_
 refine bH ?_
 refine bK (φs':=[fSl aD a0.f.AF,fSl tI a0.f.AI,fSl aW a0.f.AB,fSl aB a0.f.AD,fI a0.f.AG,fEq v1,fEq v2,fEq v3,fEq v4,fSl aD a0.p.AF,fEq v5,fSl aB a0.p.AD,fI a0.p.AG,aH true]) a1F rfl rfl (has rfl) (has rfl) (aF a1F) (sz rfl) rfl rfl ?_
 refine Z5 ?_
 refine aV ?_
 refine aV ?_
 refine aV ?_
 refine aV ?_
 refine aV ?_
 refine cP ?_
 refine fC ?_
 cases H
 refine aE [0] (by decide) ?_
 exact To
 refine I6 H (fun c2 H=>?_) fun c2 H=>?_
 refine Z11 ?_
 refine bH ?_
 refine bK (φs':=[fSl aD a0.f.AF,fSl tI a0.f.AI,fSl aW a0.f.AB,fSl aB a0.f.AD,fI a0.f.AG,fEq v1,fEq v2,fEq v3,fEq v4,fSl aD a0.p.AF,fEq v5,fSl aB a0.p.AD,fI a0.p.AG,aH true]) a1F rfl rfl (has rfl) (has rfl) (aF a1F) (sz rfl) rfl rfl ?_
 refine Z5 ?_
 refine aV ?_
 refine aV ?_
 refine aV ?_
 refine aV ?_
 refine aV ?_
 refine cP ?_
 refine fC ?_
 cases H
 refine aE [0] (by decide) ?_
 exact To
 refine I6 H (fun c3 H=>?_) fun c3 H=>?_
 refine Z5 ?_
 refine bH ?_
 refine bK (φs':=[fSl aD a0.f.AF,fSl tI a0.f.AI,fSl aW a0.f.AB,fSl aB a0.f.AD,fI a0.f.AG,fEq v1,fEq v2,fEq v3,fEq v4,fSl aD a0.p.AF,fEq v5,fSl aB a0.p.AD,fI a0.p.AG,aH true]) a1F rfl rfl (has rfl) (has rfl) (aF a1F) (sz rfl) rfl rfl ?_
 refine Z5 ?_
 refine aV ?_
 refine aV ?_
 refine aV ?_
 refine aV ?_
 refine aV ?_
 refine cP ?_
 refine fC ?_
 cases H
 refine aE [0] (by decide) ?_
 exact To
 refine B10 H fun z1 h1 H=>?_
 refine Yy (o_add rfl hh hh h1) ?_
 refine B6 H fun y1 h2 H=>?_
 refine Tc (aDf _ _ _ _ _ h2) ?_
 revert H;refine B2z fun o1 H Hr1=>?_
 refine aO (ι:=List ByteArray × List Int × List Ao × List AN × Int × List Bool × List (List Int) × List Int × List (List Int) × List ByteArray × List AZ × List AN × Int × Bool × Value × Value × Value × Value × Value) (fun i=>o1=Sum.inl (i.1,i.2.1,i.2.2.1,i.2.2.2.1,i.2.2.2.2.1,i.2.2.2.2.2.1,i.2.2.2.2.2.2.1,i.2.2.2.2.2.2.2.1,i.2.2.2.2.2.2.2.2.1,i.2.2.2.2.2.2.2.2.2.1,i.2.2.2.2.2.2.2.2.2.2.1,i.2.2.2.2.2.2.2.2.2.2.2.1,i.2.2.2.2.2.2.2.2.2.2.2.2.1,i.2.2.2.2.2.2.2.2.2.2.2.2.2.1)) (fun i=>[(0,fEq (ptr p0)),(3,fI a3),(5,fEq (ptr b1)),(9,fI z1),(10,fSl tI y1)]) (fun i=>[aA b1 77 [fSl aZ a1.AT,fSl aU a1.AS,fSl aY a1.AQ],aA p0 118 [fSl aD i.1,fSl tI i.2.1,fSl aW i.2.2.1,fSl aB i.2.2.2.1,fI i.2.2.2.2.1,fEq i.2.2.2.2.2.2.2.2.2.2.2.2.2.2.1,fEq i.2.2.2.2.2.2.2.2.2.2.2.2.2.2.2.1,fEq i.2.2.2.2.2.2.2.2.2.2.2.2.2.2.2.2.1,fEq i.2.2.2.2.2.2.2.2.2.2.2.2.2.2.2.2.2.1,fSl aD i.2.2.2.2.2.2.2.2.2.1,fEq i.2.2.2.2.2.2.2.2.2.2.2.2.2.2.2.2.2.2,fSl aB i.2.2.2.2.2.2.2.2.2.2.2.1,fI i.2.2.2.2.2.2.2.2.2.2.2.2.1,aH i.2.2.2.2.2.2.2.2.2.2.2.2.2.1],aC i.2.2.2.2.2.2.2.2.2.2.2.2.2.2.1 4 aR i.2.2.2.2.2.1,aC i.2.2.2.2.2.2.2.2.2.2.2.2.2.2.2.1 27 (tSl tI) i.2.2.2.2.2.2.1,aC i.2.2.2.2.2.2.2.2.2.2.2.2.2.2.2.2.1 3 tI i.2.2.2.2.2.2.2.1,aC i.2.2.2.2.2.2.2.2.2.2.2.2.2.2.2.2.2.1 27 (tSl tI) i.2.2.2.2.2.2.2.2.1,aC i.2.2.2.2.2.2.2.2.2.2.2.2.2.2.2.2.2.2 65 aJ i.2.2.2.2.2.2.2.2.2.2.1]) ?_ ?_
 refine Z4 ?_
 refine Th (ι:=Int × List ByteArray × List Int × List Ao × List AN × Int × List Bool × List (List Int) × List Int × List (List Int) × List ByteArray × List AZ × List AN × Int × Bool × Value × Value × Value × Value × Value) (fun i=>nA AA (eE AA) a1 a3 z1 y1 i.1 i.2.1 i.2.2.1 i.2.2.2.1 i.2.2.2.2.1 i.2.2.2.2.2.1 i.2.2.2.2.2.2.1 i.2.2.2.2.2.2.2.1 i.2.2.2.2.2.2.2.2.1 i.2.2.2.2.2.2.2.2.2.1 i.2.2.2.2.2.2.2.2.2.2.1 i.2.2.2.2.2.2.2.2.2.2.2.1 i.2.2.2.2.2.2.2.2.2.2.2.2.1 i.2.2.2.2.2.2.2.2.2.2.2.2.2.1 i.2.2.2.2.2.2.2.2.2.2.2.2.2.2.1 i.2.2.2.2.2.2.2.2.2.2.2.2.2.2.2.1=_) (fun i=>[(0,fEq (ptr p0)),(3,fI a3),(5,fEq (ptr b1)),(9,fI z1),(10,fSl tI y1),(11,fI i.2.1)]) (fun i=>[aA b1 77 [fSl aZ a1.AT,fSl aU a1.AS,fSl aY a1.AQ],aA p0 118 [fSl aD i.2.2.1,fSl tI i.2.2.2.1,fSl aW i.2.2.2.2.1,fSl aB i.2.2.2.2.2.1,fI i.2.2.2.2.2.2.1,fEq i.2.2.2.2.2.2.2.2.2.2.2.2.2.2.2.2.1,fEq i.2.2.2.2.2.2.2.2.2.2.2.2.2.2.2.2.2.1,fEq i.2.2.2.2.2.2.2.2.2.2.2.2.2.2.2.2.2.2.1,fEq i.2.2.2.2.2.2.2.2.2.2.2.2.2.2.2.2.2.2.2.1,fSl aD i.2.2.2.2.2.2.2.2.2.2.2.1,fEq i.2.2.2.2.2.2.2.2.2.2.2.2.2.2.2.2.2.2.2.2,fSl aB i.2.2.2.2.2.2.2.2.2.2.2.2.2.1,fI i.2.2.2.2.2.2.2.2.2.2.2.2.2.2.1,aH i.2.2.2.2.2.2.2.2.2.2.2.2.2.2.2.1],aC i.2.2.2.2.2.2.2.2.2.2.2.2.2.2.2.2.1 4 aR i.2.2.2.2.2.2.2.1,aC i.2.2.2.2.2.2.2.2.2.2.2.2.2.2.2.2.2.1 27 (tSl tI) i.2.2.2.2.2.2.2.2.1,aC i.2.2.2.2.2.2.2.2.2.2.2.2.2.2.2.2.2.2.1 3 tI i.2.2.2.2.2.2.2.2.2.1,aC i.2.2.2.2.2.2.2.2.2.2.2.2.2.2.2.2.2.2.2.1 27 (tSl tI) i.2.2.2.2.2.2.2.2.2.2.1,aC i.2.2.2.2.2.2.2.2.2.2.2.2.2.2.2.2.2.2.2.2 65 aJ i.2.2.2.2.2.2.2.2.2.2.2.2.1]) (AA,0,a0.f.AF,a0.f.AI,a0.f.AB,a0.f.AD,a0.f.AG,a0.AP,a0.AY,a0.Aa,a0.AU,a0.p.AF,a0.p.AB,a0.p.AD,a0.p.AG,a0.bad,v1,v2,v3,v4,v5) H (fun _ h=>nomatch h) ?_
 clear H;rintro k1 ⟨x30,x31,x32,x33,x34,x35,x36,x37,x38,x39,x40,x41,x42,x43,x44,v16,v17,v18,v19,v20⟩ H;dsimp only at H ⊢;rw [nA]at H
 refine rc 2 fun hc_v16=>?_
 refine rc 3 fun hc_v17=>?_
 refine rc 4 fun hc_v18=>?_
 refine rc 5 fun hc_v19=>?_
 refine rc 6 fun hc_v20=>?_
 refine aG ?_
 revert H;refine I7z (fun c4 H=>?_) fun c4 H=>?_
 refine Z7 ?_
 revert H;refine cs (fun c5 H=>?_) fun c5 H=>?_
 refine Z6 ?_
 exact Tm ((x31,x32,x33,x34,x35,x36,x37,x38,x39,x40,x41,x42,x43,x44,v16,v17,v18,v19,v20)) (ij H)
 refine Z3 ?_
 refine aG ?_
 refine Z1 ?_
 refine aG ?_
 revert H;refine bs fun y2 h3 H=>?_
 revert H;refine bs fun y3 h4 H=>?_
 apply bD (ods:=[_,_,_,_,_,_,_,_]) 8 0 7 bC rfl rfl rfl
 refine ND ?_
 refine M4 ?_
 intros
 refine My (cT rfl hh hh (el rfl) h3) fun _=>?_
 refine M1 ?_
 intros
 refine Nc (aKW _ _ _ _ h4) fun _=>?_
 refine M1 ?_
 intros
 refine Z2 ?_
 refine aG ?_
 revert H;refine I4z (fun c6 H=>?_) fun c6 H=>?_
 refine Z5 ?_
 refine bH ?_
 refine bK (φs':=[fSl aD x31,fSl tI x32,fSl aW x33,fSl aB x34,fI x35,fEq v16,fEq v17,fEq v18,fEq v19,fSl aD x40,fEq v20,fSl aB x42,fI x43,aH true]) a1F rfl rfl (has rfl) (has rfl) (aF a1F) (sz rfl) rfl rfl ?_
 revert H;refine B11z fun r1 H e1=>?_
 cases e1;cases Hr1
 refine aV ?_
 refine aV ?_
 refine aV ?_
 refine aV ?_
 refine aV ?_
 refine cP ?_
 refine fC ?_
 cases H
 refine aE [0] (by decide) ?_
 exact To
 revert H;refine B3z fun y4 h5 H=>?_
 revert H;refine bs fun z2 h6 H=>?_
 revert H;refine bs fun y5 h7 H=>?_
 revert H;refine bs fun z3 h8 H=>?_
 revert H;refine bs fun z4 h9 H=>?_
 apply bD (ods:=[_,_,_,_,_,_,_,_,_,_,_,_,_,_,_,_,_,_]) 18 0 7 bC rfl rfl rfl
 refine ND ?_
 refine M8 ?_
 intros
 refine M2 ?_
 intros
 refine My (o_add rfl hh hh h6) fun _=>?_
 refine M1 ?_
 intros
 refine Nc (aDf _ _ _ _ _ h7) fun _=>?_
 refine M5 ?_
 intros
 refine Z1 ?_
 refine aV ?_
 refine aV ?_
 refine aV ?_
 refine aV ?_
 refine aV ?_
 refine aV ?_
 refine fC ?_
 revert H;refine bs fun y6 h10 H=>?_
 refine Tc (ih_r07_opener_node _ _ _ _ _ _ h10) ?_
 refine rX (fun v21 v22 v23 v24 v25=>?_)
 refine rc 1 fun _=>?_
 refine rc 2 fun _=>?_
 refine rc 3 fun _=>?_
 refine rc 4 fun _=>?_
 refine rc 5 fun _=>?_
 revert H;refine B5z fun z5 h11 H=>?_
 refine Z3 ?_
 refine aE [6,0,1,2,3,4,5] (by decide) ?_
 exact Tm ((k1,z5,y6.f.AF,y6.f.AI,y6.f.AB,y6.f.AD,y6.f.AG,y6.AP,y6.AY,y6.Aa,y6.AU,y6.p.AF,y6.p.AB,y6.p.AD,y6.p.AG,y6.bad,v21,v22,v23,v24,v25)) ⟨H,ls⟩
 exact fk
 kernel_rfl
 exact fk
 kernel_rfl
 refine Z12 ?_
 refine Z1 ?_
 exact Tm ((x31,x32,x33,x34,x35,x36,x37,x38,x39,x40,x41,x42,x43,x44,v16,v17,v18,v19,v20)) (ij H)
 rintro⟨x1,x2,x3,x4,x5,x6,x7,x8,x9,x10,x11,x12,x13,x14,v6,v7,v8,v9,v10⟩ hi;subst o1;replace H:=Hr1;clear Hr1;try dsimp only at H ⊢
 refine rc 2 fun hc_v6=>?_
 refine rc 3 fun _=>?_
 refine rc 4 fun hc_v8=>?_
 refine rc 5 fun _=>?_
 refine rc 6 fun hc_v10=>?_
 revert H;refine bs fun o2 H Hr2=>?_
 refine aO (ι:=List ByteArray × List Int × List Ao × List AN × Int × List Bool × List (List Int) × List Int × List (List Int) × List ByteArray × List AZ × List AN × Int × Bool × Value × Value × Value × Value × Value) (fun i=>o2=(i.1,i.2.1,i.2.2.1,i.2.2.2.1,i.2.2.2.2.1,i.2.2.2.2.2.1,i.2.2.2.2.2.2.1,i.2.2.2.2.2.2.2.1,i.2.2.2.2.2.2.2.2.1,i.2.2.2.2.2.2.2.2.2.1,i.2.2.2.2.2.2.2.2.2.2.1,i.2.2.2.2.2.2.2.2.2.2.2.1,i.2.2.2.2.2.2.2.2.2.2.2.2.1,i.2.2.2.2.2.2.2.2.2.2.2.2.2.1)) (fun i=>[(0,fEq (ptr p0)),(9,fI z1)]) (fun i=>[aA b1 77 [fSl aZ a1.AT,fSl aU a1.AS,fSl aY a1.AQ],aA p0 118 [fSl aD i.1,fSl tI i.2.1,fSl aW i.2.2.1,fSl aB i.2.2.2.1,fI i.2.2.2.2.1,fEq i.2.2.2.2.2.2.2.2.2.2.2.2.2.2.1,fEq i.2.2.2.2.2.2.2.2.2.2.2.2.2.2.2.1,fEq i.2.2.2.2.2.2.2.2.2.2.2.2.2.2.2.2.1,fEq i.2.2.2.2.2.2.2.2.2.2.2.2.2.2.2.2.2.1,fSl aD i.2.2.2.2.2.2.2.2.2.1,fEq i.2.2.2.2.2.2.2.2.2.2.2.2.2.2.2.2.2.2,fSl aB i.2.2.2.2.2.2.2.2.2.2.2.1,fI i.2.2.2.2.2.2.2.2.2.2.2.2.1,aH i.2.2.2.2.2.2.2.2.2.2.2.2.2.1],aC i.2.2.2.2.2.2.2.2.2.2.2.2.2.2.1 4 aR i.2.2.2.2.2.1,aC i.2.2.2.2.2.2.2.2.2.2.2.2.2.2.2.1 27 (tSl tI) i.2.2.2.2.2.2.1,aC i.2.2.2.2.2.2.2.2.2.2.2.2.2.2.2.2.1 3 tI i.2.2.2.2.2.2.2.1,aC i.2.2.2.2.2.2.2.2.2.2.2.2.2.2.2.2.2.1 27 (tSl tI) i.2.2.2.2.2.2.2.2.1,aC i.2.2.2.2.2.2.2.2.2.2.2.2.2.2.2.2.2.2 65 aJ i.2.2.2.2.2.2.2.2.2.2.1]) ?_ ?_
 refine Z4 ?_
 refine Th (ι:=Int × List ByteArray × List Int × List Ao × List AN × Int × List Bool × List (List Int) × List Int × List (List Int) × List ByteArray × List AZ × List AN × Int × Bool × Value × Value × Value × Value × Value) (fun i=>lI (eE AA) a1 a3 z1 y1 i.1 i.2.1 i.2.2.1 i.2.2.2.1 i.2.2.2.2.1 i.2.2.2.2.2.1 i.2.2.2.2.2.2.1 i.2.2.2.2.2.2.2.1 i.2.2.2.2.2.2.2.2.1 i.2.2.2.2.2.2.2.2.2.1 i.2.2.2.2.2.2.2.2.2.2.1 i.2.2.2.2.2.2.2.2.2.2.2.1 i.2.2.2.2.2.2.2.2.2.2.2.2.1 i.2.2.2.2.2.2.2.2.2.2.2.2.2.1 i.2.2.2.2.2.2.2.2.2.2.2.2.2.2.1 i.2.2.2.2.2.2.2.2.2.2.2.2.2.2.2.1=_) (fun i=>[(0,fEq (ptr p0)),(3,fI a3),(5,fEq (ptr b1)),(9,fI z1),(10,fSl tI y1),(13,fI i.2.1)]) (fun i=>[aA b1 77 [fSl aZ a1.AT,fSl aU a1.AS,fSl aY a1.AQ],aA p0 118 [fSl aD i.2.2.1,fSl tI i.2.2.2.1,fSl aW i.2.2.2.2.1,fSl aB i.2.2.2.2.2.1,fI i.2.2.2.2.2.2.1,fEq i.2.2.2.2.2.2.2.2.2.2.2.2.2.2.2.2.1,fEq i.2.2.2.2.2.2.2.2.2.2.2.2.2.2.2.2.2.1,fEq i.2.2.2.2.2.2.2.2.2.2.2.2.2.2.2.2.2.2.1,fEq i.2.2.2.2.2.2.2.2.2.2.2.2.2.2.2.2.2.2.2.1,fSl aD i.2.2.2.2.2.2.2.2.2.2.2.1,fEq i.2.2.2.2.2.2.2.2.2.2.2.2.2.2.2.2.2.2.2.2,fSl aB i.2.2.2.2.2.2.2.2.2.2.2.2.2.1,fI i.2.2.2.2.2.2.2.2.2.2.2.2.2.2.1,aH i.2.2.2.2.2.2.2.2.2.2.2.2.2.2.2.1],aC i.2.2.2.2.2.2.2.2.2.2.2.2.2.2.2.2.1 4 aR i.2.2.2.2.2.2.2.1,aC i.2.2.2.2.2.2.2.2.2.2.2.2.2.2.2.2.2.1 27 (tSl tI) i.2.2.2.2.2.2.2.2.1,aC i.2.2.2.2.2.2.2.2.2.2.2.2.2.2.2.2.2.2.1 3 tI i.2.2.2.2.2.2.2.2.2.1,aC i.2.2.2.2.2.2.2.2.2.2.2.2.2.2.2.2.2.2.2.1 27 (tSl tI) i.2.2.2.2.2.2.2.2.2.2.1,aC i.2.2.2.2.2.2.2.2.2.2.2.2.2.2.2.2.2.2.2.2 65 aJ i.2.2.2.2.2.2.2.2.2.2.2.2.1]) (AA,0,x1,x2,x3,x4,x5,x6,x7,x8,x9,x10,x11,x12,x13,x14,v6,v7,v8,v9,v10) H (fun _ h=>nomatch h) ?_
 clear H;rintro k2 ⟨x74,x75,x76,x77,x78,x79,x80,x81,x82,x83,x84,x85,x86,x87,x88,v36,v37,v38,v39,v40⟩ H;dsimp only at H ⊢;rw [lI]at H
 refine rc 2 fun _=>?_
 refine rc 3 fun _=>?_
 refine rc 4 fun _=>?_
 refine rc 5 fun _=>?_
 refine rc 6 fun _=>?_
 refine aG ?_
 revert H;refine I7z (fun c7 H=>?_) fun c7 H=>?_
 refine Z7 ?_
 revert H;refine cs (fun c8 H=>?_) fun c8 H=>?_
 refine Z6 ?_
 exact Tm ((x75,x76,x77,x78,x79,x80,x81,x82,x83,x84,x85,x86,x87,x88,v36,v37,v38,v39,v40)) (ij H)
 refine Z3 ?_
 refine aG ?_
 revert H;refine B6z fun y7 h12 H=>?_
 revert H;refine B6z fun z6 h13 H=>?_
 refine Z1 ?_
 refine aV ?_
 refine aV ?_
 refine aV ?_
 refine aV ?_
 refine aV ?_
 refine aV ?_
 refine fC ?_
 revert H;refine bs fun y8 h14 H=>?_
 refine Tc (ih_r07_opener_node _ _ _ _ _ _ h14) ?_
 refine rX (fun v41 v42 v43 v44 v45=>?_)
 refine rc 1 fun _=>?_
 refine rc 2 fun _=>?_
 refine rc 3 fun _=>?_
 refine rc 4 fun _=>?_
 refine rc 5 fun _=>?_
 revert H;refine B5z fun z7 h15 H=>?_
 refine Z3 ?_
 refine aE [6,0,1,2,3,4,5] (by decide) ?_
 exact Tm ((k2,z7,y8.f.AF,y8.f.AI,y8.f.AB,y8.f.AD,y8.f.AG,y8.AP,y8.AY,y8.Aa,y8.AU,y8.p.AF,y8.p.AB,y8.p.AD,y8.p.AG,y8.bad,v41,v42,v43,v44,v45)) ⟨H,ls⟩
 refine Z12 ?_
 refine Z1 ?_
 exact Tm ((x75,x76,x77,x78,x79,x80,x81,x82,x83,x84,x85,x86,x87,x88,v36,v37,v38,v39,v40)) (ij H)
 rintro⟨x45,x46,x47,x48,x49,x50,x51,x52,x53,x54,x55,x56,x57,x58,v26,v27,v28,v29,v30⟩ hi;subst o2;replace H:=Hr2;clear Hr2;try dsimp only at H ⊢
 refine rc 2 fun hc_v26=>?_
 refine rc 3 fun hc_v27=>?_
 refine rc 4 fun hc_v28=>?_
 refine rc 5 fun hc_v29=>?_
 refine rc 6 fun hc_v30=>?_
 refine Z5 ?_
 refine aV ?_
 refine aV ?_
 refine aV ?_
 refine aV ?_
 refine aV ?_
 refine aV ?_
 refine fC ?_
 cases H
 refine aE [0] (by decide) ?_
 exact To
theorem aJw (AA:Nat) (p0:Nat) (a0:Ag) (a1:Int) (a2:List Int) (a3:Int) (r:Ag) (H:eE AA a0 a1 a2 a3=some r):FnS Tryz.prog 80 [fEq (.pointer (some ⟨p0,0,none⟩)),fI a1,fSl tI a2,fI a3] [mL p0 a0] (dB []) (fun _=>[mL p0 r]):=(aIp AA).1 p0 a0 a1 a2 a3 r H
end Go.Proofs.YtgidgoahhepmlaaGreat

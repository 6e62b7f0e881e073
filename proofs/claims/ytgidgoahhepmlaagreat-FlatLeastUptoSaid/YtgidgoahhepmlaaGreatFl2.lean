/- Parts of the proof: lemmas, and the steps through the program. -/
import Derived.Test.YtgidgoahhepmlaaGreatFl1
import Derived.Test.YtgidgoahhepmlaaGreatProg
import Derived.Shelf.Sort.Plain
import Derived.Shelf.Slices.CompactI
import Derived.Shelf.Slices.In.SortNone
set_option linter.unusedVariables false
set_option linter.unusedSimpArgs false
set_option maxRecDepth 100000
set_option maxHeartbeats 2000000
namespace Go.Proofs.YtgidgoahhepmlaaGreat
open Go.SX Go.SW Go.Dt
attribute [local irreducible] Code.wpIn wpListIn Exit.then Exit.inBlock
def oT {σ:Type} (rec_scope_looker_below_1_1:Int->(Int->σ->Option σ)->σ->Ae->Option (σ × Bool)) (Y:Int->σ->Option σ) (w1:Ae) (y3:AN):Nat->Int->σ->Option ((σ) ⊕ ((σ) ⊕ (σ × Bool)))
| 0,_,_=>none
| k+1,x5,x6=>
 if x5<(y3.AP.length:Int)then
  (idx y3.AP x5).bind fun y4=>
  (rec_scope_looker_below_1_1 y4.AU Y x6 w1).bind fun y5=>
  bif y5.2 then
   (chk (x5+1)).bind fun z1=>
   oT rec_scope_looker_below_1_1 Y w1 y3 k z1 y5.1
  else
   ((some (y5.1,false)).bind fun r=>some (Sum.inr r)).bind fun r=>some (Sum.inr r)
 else
  some (Sum.inl x6)
def oE {σ:Type} (rec_scope_looker_below_1_1:Int->(Int->σ->Option σ)->σ->Ae->Option (σ × Bool)) (Y:Int->σ->Option σ) (w1:Ae) (y6:AN):Nat->Int->σ->Option ((σ) ⊕ (σ × Bool))
| 0,_,_=>none
| k+1,x9,x10=>
 if x9<(y6.AS.length:Int)then
  (idx y6.AS x9).bind fun y7=>
  (rec_scope_looker_below_1_1 y7.AU Y x10 w1).bind fun y8=>
  bif y8.2 then
   (chk (x9+1)).bind fun z2=>
   oE rec_scope_looker_below_1_1 Y w1 y6 k z2 y8.1
  else
   (some (y8.1,false)).bind fun r=>some (Sum.inr r)
 else
  some (Sum.inl x10)
def oL {σ:Type} (rec_scope_looker_below_1_1:Int->(Int->σ->Option σ)->σ->Ae->Option (σ × Bool)) (Y:Int->σ->Option σ) (w1:Ae) (y2:AV):Nat->Int->σ->Option ((σ) ⊕ (σ × Bool))
| 0,_,_=>none
| k+1,x14,x15=>
 if x14<(y2.AO.length:Int)then
  (idx y2.AO x14).bind fun y9=>
  (rec_scope_looker_below_1_1 y9 Y x15 w1).bind fun y10=>
  bif y10.2 then
   (chk (x14+1)).bind fun z3=>
   oL rec_scope_looker_below_1_1 Y w1 y2 k z3 y10.1
  else
   (some (y10.1,false)).bind fun r=>some (Sum.inr r)
 else
  some (Sum.inl x15)
def gP {σ:Type}:Nat->Int->(Int->σ->Option σ)->σ->Ae->Option (σ × Bool)
| 0,_,_,_,_=>none
| AA+1,a0,Y,s0,w1=>
 (Y a0 s0).bind fun y1=>
 (idx w1.p.AD a0).bind fun y2=>
 (if y2.Op=4 then
  ((idx w1.p.AF y2.N).bind fun y3=>
  oT (gP AA) Y w1 y3 AA 0 y1).bind fun o=>match o with
  | Sum.inr r=>some r
  | Sum.inl x2=>
  (idx w1.p.AF y2.N).bind fun y6=>
  oE (gP AA) Y w1 y6 AA 0 x2
 else
  some (Sum.inl y1)).bind fun o=>match o with
 | Sum.inr r=>some r
 | Sum.inl x1=>
 (oL (gP AA) Y w1 y2 AA 0 x1).bind fun o=>match o with
 | Sum.inr r=>some r
 | Sum.inl x11=>
 some (x11,true)
theorem aKI:∀ (AA:Nat),(∀ {σ:Type} (q0:Nat) (J:σ->Tk) (q2:Nat) (a0:Int) (Y:Int->σ->Option σ) (s0:σ) (w1:Ae) (r:σ × Bool) (H:gP AA a0 Y s0 w1=some r),FnS Tryz.prog 155 [fI a0,fEq (.pointer (some ⟨q0,0,none⟩)),aB (fA bR) w1,fEq (.pointer (some ⟨q2,0,none⟩))] [aA q0 234 [iX Tryz.prog (fun (x:Int)=>[fI x]) Y J],J s0,aA q2 234 [bU 155 [fEq (.pointer (some ⟨q0,0,none⟩)),aB (fA bR) w1,fEq (.pointer (some ⟨q2,0,none⟩))]]] (aR r.2) (fun _=>[aA q0 234 [iX Tryz.prog (fun (x:Int)=>[fI x]) Y J],J r.1,aA q2 234 [bU 155 [fEq (.pointer (some ⟨q0,0,none⟩)),aB (fA bR) w1,fEq (.pointer (some ⟨q2,0,none⟩))]]])):=by
 intro AA
 induction AA with
 | zero=>exact fun q0 J q2 a0 Y s0 w1 r H=>(by rw [gP]at H;cases H)
 | succ AA ih=>
 have ih_scope_looker_below_1_1:=@ih
 refine ?_
 intro σ q0 J q2 a0 Y s0 w1 r H
 rw [gP]at H
 refine bL Tryz.func155 rfl Tryz.ntmps155 rfl (fun β=>?_)
 refine Z3 ?_
 refine aJ ?_
 refine Z3 ?_
 refine cL ?_
 revert H;refine bs fun y1 h1 H=>?_
 refine T_callY a0 a2e rfl rfl rfl (has rfl) (aK.cons (has rfl) aK.nil) h1 ?_
 revert H;refine B12 fun y2 h2 H=>?_
 refine Z2 ?_
 refine Tn (bG rfl sI rfl) fun b1=>?_
 refine bZ (φs':=[fI y2.Op,fI y2.N,fSl aN y2.AW,fSl tI y2.AO]) a2e rfl rfl (has rfl) (has rfl) (aC (aI a2e) (aC (aI a2e) (aC (aP) (aC (aP) bD)))) (sz rfl) rfl rfl rfl ?_
 revert H;refine B1 fun o1 H Hr1=>?_
 refine aS (ι:=σ) (fun i=>o1=Sum.inl i) (fun i=>[(1,fEq (ptr q0)),(3,fEq (ptr q2)),(6,fEq (ptr b1))]) (fun i=>[aA b1 65 [fI y2.Op,fI y2.N,fSl aN y2.AW,fSl tI y2.AO],aA q0 234 [iX Tryz.prog (fun (x:Int)=>[fI x]) Y J],aA q2 234 [bU 155 [fEq (ptr q0),aB (fA bR) w1,fEq (ptr q2)]],J i]) ?_ ?_
 revert H;refine I5 (fun c1 H=>?_) fun c1 H=>?_
 revert H;refine B1 fun o2 H Hr2=>?_
 refine aS (ι:=σ) (fun i=>o2=Sum.inl i) (fun i=>[(1,fEq (ptr q0)),(2,aB (fA bR) w1),(3,fEq (ptr q2)),(6,fEq (ptr b1))]) (fun i=>[aA b1 65 [fI y2.Op,fI y2.N,fSl aN y2.AW,fSl tI y2.AO],aA q0 234 [iX Tryz.prog (fun (x:Int)=>[fI x]) Y J],aA q2 234 [bU 155 [fEq (ptr q0),aB (fA bR) w1,fEq (ptr q2)]],J i]) ?_ ?_
 refine aJ ?_
 revert H;refine bs fun y3 h3 H=>?_
 apply bW (ods:=[_,_,_,_,_,_,_,_,_,_,_,_]) 12 0 4 bV rfl rfl rfl
 refine ND ?_
 refine M8 ?_
 intros
 refine M4 ?_
 intros
 refine Z3 ?_
 refine aH [0,2,3,1] (by decide) ?_
 refine Tl (ι:=Nat × Int × σ) (fun i=>oT (gP AA) Y w1 y3 i.1 i.2.1 i.2.2=_) (fun i=>i.1) (fun i=>[(1,fEq (ptr q0)),(2,aB (fA bR) w1),(3,fEq (ptr q2)),(6,fEq (ptr b1)),(37,fSl bF y3.AP),(38,fI (y3.AP.length:Int)),(39,fI i.2.1)]) (fun i=>[aA b1 65 [fI y2.Op,fI y2.N,fSl aN y2.AW,fSl tI y2.AO],aA q0 234 [iX Tryz.prog (fun (x:Int)=>[fI x]) Y J],aA q2 234 [bU 155 [fEq (ptr q0),aB (fA bR) w1,fEq (ptr q2)]],J i.2.2]) (AA,0,y1) H ?_
 clear H;rintro⟨k1,x5,x6⟩ H
 replace H:oT (gP AA) Y w1 y3 k1 x5 x6=_:=H
 try dsimp only
 obtain _ | k1:=k1
 rw [oT]at H;cases H
 rw [oT]at H
 refine Z3 ?_
 refine aJ ?_
 revert H;refine is (fun c2 H=>?_) fun c2 H=>?_
 refine Z3 ?_
 refine aJ ?_
 revert H;refine B2 fun y4 h4 H=>?_
 refine Z2 ?_
 refine Tn (bG rfl sJ rfl) fun b2=>?_
 refine bZ (φs':=[fI y4.At,fSl tI y4.Ab,fI y4.AU]) a2e rfl rfl (has rfl) (has rfl) (aC (aI a2e) (aC (aP) (aC (aI a2e) bD))) (sz rfl) rfl rfl rfl ?_
 refine Z5 ?_
 refine eM ?_
 refine dD ?_
 refine dD ?_
 revert H;refine bs fun y5 h5 H=>?_
 refine gI a2e rfl rfl rfl (has rfl) (aK.cons (has rfl) aK.nil) rfl (cb rfl) (ih_scope_looker_below_1_1 q0 J q2 y4.AU Y x6 w1 y5 h5) rfl ?_
 refine Z2 ?_
 revert H;refine cs (fun c3 H=>?_) fun c3 H=>?_
 revert H;refine B5 fun z1 h6 H=>?_
 refine Z3 ?_
 refine aH [4,0,2,1] (by decide) ?_
 exact Tm ((k1,z1,y5.1)) ⟨H,ls⟩
 revert H;refine B10 fun r1 H e1=>?_
 cases e1;cases Hr2
 revert H;refine B1 fun r2 H e2=>?_
 cases e2;cases Hr1
 cases H
 refine aH [0,1,2] (by decide) ?_
 exact To
 refine Z6 ?_
 exact Tm (x6) (ij H)
 exact fk
 kernel_rfl
 clear H;intro x2 hi;subst o2;have H:=Hr2;clear Hr2;try dsimp only at H
 try dsimp only
 refine aJ ?_
 revert H;refine bs fun y6 h7 H=>?_
 apply bW (ods:=[_,_,_,_,_,_,_,_,_,_,_,_]) 12 0 4 bV rfl rfl rfl
 refine ND ?_
 refine M8 ?_
 intros
 refine M4 ?_
 intros
 refine Z3 ?_
 refine Tl (ι:=Nat × Int × σ) (fun i=>oE (gP AA) Y w1 y6 i.1 i.2.1 i.2.2=_) (fun i=>i.1) (fun i=>[(1,fEq (ptr q0)),(3,fEq (ptr q2)),(6,fEq (ptr b1)),(58,fSl bQ y6.AS),(59,fI (y6.AS.length:Int)),(60,fI i.2.1)]) (fun i=>[aA b1 65 [fI y2.Op,fI y2.N,fSl aN y2.AW,fSl tI y2.AO],aA q0 234 [iX Tryz.prog (fun (x:Int)=>[fI x]) Y J],aA q2 234 [bU 155 [fEq (ptr q0),aB (fA bR) w1,fEq (ptr q2)]],J i.2.2]) (AA,0,x2) H ?_
 clear H;rintro⟨k2,x9,x10⟩ H
 replace H:oE (gP AA) Y w1 y6 k2 x9 x10=_:=H
 try dsimp only
 obtain _ | k2:=k2
 rw [oE]at H;cases H
 rw [oE]at H
 refine Z3 ?_
 refine aJ ?_
 revert H;refine is (fun c4 H=>?_) fun c4 H=>?_
 refine Z3 ?_
 refine aJ ?_
 revert H;refine B2 fun y7 h8 H=>?_
 refine Z2 ?_
 refine Tn (bG rfl vL rfl) fun b3=>?_
 refine bZ (φs':=[fI y7.In,fI y7.AU]) a2e rfl rfl (has rfl) (has rfl) (aC (aI a2e) (aC (aI a2e) bD)) (sz rfl) rfl rfl rfl ?_
 refine Z5 ?_
 refine eM ?_
 refine dD ?_
 refine dD ?_
 revert H;refine bs fun y8 h9 H=>?_
 refine gI a2e rfl rfl rfl (has rfl) (aK.cons (has rfl) aK.nil) rfl (cb rfl) (ih_scope_looker_below_1_1 q0 J q2 y7.AU Y x10 w1 y8 h9) rfl ?_
 refine Z2 ?_
 revert H;refine cs (fun c5 H=>?_) fun c5 H=>?_
 revert H;refine B5 fun z2 h10 H=>?_
 refine Z3 ?_
 refine aH [4,0,2,1] (by decide) ?_
 exact Tm ((k2,z2,y8.1)) ⟨H,ls⟩
 revert H;refine B10 fun r3 H e3=>?_
 cases e3;cases Hr1
 cases H
 refine aH [0,1,2] (by decide) ?_
 exact To
 refine Z6 ?_
 exact Tm (x10) (ij H)
 exact fk
 kernel_rfl
 refine Z3 ?_
 refine aH [0,2,3,1] (by decide) ?_
 exact Tm (y1) (ij H)
 clear H;intro x1 hi;subst o1;have H:=Hr1;clear Hr1;try dsimp only at H
 try dsimp only
 revert H;refine bs fun o3 H Hr3=>?_
 refine aS (ι:=σ) (fun i=>o3=Sum.inl i) (fun i=>[(1,fEq (ptr q0)),(3,fEq (ptr q2))]) (fun i=>[aA b1 65 [fI y2.Op,fI y2.N,fSl aN y2.AW,fSl tI y2.AO],aA q0 234 [iX Tryz.prog (fun (x:Int)=>[fI x]) Y J],aA q2 234 [bU 155 [fEq (ptr q0),aB (fA bR) w1,fEq (ptr q2)]],J i]) ?_ ?_
 refine Z7 ?_
 refine Tl (ι:=Nat × Int × σ) (fun i=>oL (gP AA) Y w1 y2 i.1 i.2.1 i.2.2=_) (fun i=>i.1) (fun i=>[(1,fEq (ptr q0)),(3,fEq (ptr q2)),(71,fSl tI y2.AO),(72,fI (y2.AO.length:Int)),(73,fI i.2.1)]) (fun i=>[aA b1 65 [fI y2.Op,fI y2.N,fSl aN y2.AW,fSl tI y2.AO],aA q0 234 [iX Tryz.prog (fun (x:Int)=>[fI x]) Y J],aA q2 234 [bU 155 [fEq (ptr q0),aB (fA bR) w1,fEq (ptr q2)]],J i.2.2]) (AA,0,x1) H ?_
 clear H;rintro⟨k3,x14,x15⟩ H
 replace H:oL (gP AA) Y w1 y2 k3 x14 x15=_:=H
 try dsimp only
 obtain _ | k3:=k3
 rw [oL]at H;cases H
 rw [oL]at H
 refine Z3 ?_
 refine aJ ?_
 revert H;refine is (fun c6 H=>?_) fun c6 H=>?_
 refine Z3 ?_
 refine aJ ?_
 revert H;refine B2 fun y9 h11 H=>?_
 refine Z7 ?_
 refine dT ?_
 refine eM ?_
 refine eM ?_
 revert H;refine bs fun y10 h12 H=>?_
 refine gI a2e rfl rfl rfl (has rfl) (aK.cons (has rfl) aK.nil) rfl (cb rfl) (ih_scope_looker_below_1_1 q0 J q2 y9 Y x15 w1 y10 h12) rfl ?_
 refine Z2 ?_
 revert H;refine cs (fun c7 H=>?_) fun c7 H=>?_
 revert H;refine B5 fun z3 h13 H=>?_
 refine Z3 ?_
 refine aH [3,0,2,1] (by decide) ?_
 exact Tm ((k3,z3,y10.1)) ⟨H,ls⟩
 revert H;refine B10 fun r4 H e4=>?_
 cases e4;cases Hr3
 cases H
 refine aH [0,1,2] (by decide) ?_
 exact To
 refine Z6 ?_
 exact Tm (x15) (ij H)
 clear H;intro x11 hi;subst o3;have H:=Hr3;clear Hr3;try dsimp only at H
 try dsimp only
 refine Z4 ?_
 cases H
 refine aH [1,3,2] (by decide) ?_
 exact To
def aA5 {σ:Type} (AA:Nat) (Y:Int->σ->Option σ) (s0:σ) (w0:Ae) (w1:Int):Option (σ):=
 (gP AA w1 Y s0 w0).bind fun y1=>
 some y1.1
theorem aIN (AA:Nat) {σ:Type} (J:σ->Tk) (Y:Int->σ->Option σ) (s0:σ) (w0:Ae) (w1:Int) (r:σ) (H:aA5 AA Y s0 w0 w1=some r):FnS Tryz.prog 154 [iX Tryz.prog (fun (x:Int)=>[fI x]) Y J,aB (fA bR) w0,aB tI w1] [J s0] (cV []) (fun _=>[J r]):=by
 unfold aA5 at H
 refine bL Tryz.func154 rfl Tryz.ntmps154 rfl (fun β=>?_)
 refine Z1 ?_
 refine Tn (cC rfl (has rfl) (cJ (aIv))) fun b1=>?_
 refine Z2 ?_
 refine Tn (bG rfl aKi rfl) fun b2=>?_
 refine Z2 ?_
 refine Yy (mR rfl (aK.cons hh (aK.cons hh (aK.cons hh aK.nil)))) ?_
 refine dN (φs':=[bU 155 [fEq (ptr b1),aB (fA bR) w0,fEq (ptr b2)]]) a2e rfl rfl (has rfl) (has rfl) (aDt) (sz rfl) rfl rfl ?_
 refine Z4 ?_
 refine dT ?_
 refine dT ?_
 revert H;refine bs fun y1 h1 H=>?_
 refine gI a2e rfl rfl rfl (has rfl) (aK.cons (has rfl) aK.nil) rfl (cb rfl) (aKI AA b1 J b2 w1 Y s0 w0 y1 h1) rfl ?_
 refine Z1 ?_
 cases H
 refine aH [1] (by decide) ?_
 exact jQ (.inr rfl) rfl rfl
def aBl (a0:Ae) (a1:Int):Option (Ae × Int):=
 some (a0,a1)
theorem aIw  (a0:Ae) (a1:Int) (r:Ae × Int) (H:aBl a0 a1=some r):FnS Tryz.prog 122 [aB bR a0,fI a1] [] (bU 154 [aB (fA bR) r.1,aB tI r.2]) (fun _=>[]):=by
 unfold aBl at H
 refine bL Tryz.func122 rfl Tryz.ntmps122 rfl (fun β=>?_)
 refine Z1 ?_
 refine Tn (cC rfl (has rfl) (cJ (aCP))) fun b1=>?_
 refine Tn (cC rfl (has rfl) (cJ (aI a2e))) fun b2=>?_
 refine Z3 ?_
 refine cL ?_
 refine cF (φ:=aB (fA bR) a0) (v:=ptr b1) [2] (gH aO.rfl) fz ?_
 refine cE ?_
 refine cF (φ:=aB tI a1) (v:=ptr b2) [3] (gH aO.rfl) fz ?_
 refine cE ?_
 refine Yy (mR rfl (aK.cons hh (aK.cons hh aK.nil))) ?_
 refine Z3 ?_
 cases H
 exact To
def lC (rec_scope_asks:(aG Int Bool)->AT->Option (aG Int Bool)) (a1:AT):Nat->Int->(aG Int Bool)->Option (aG Int Bool)
| 0,_,_=>none
| k+1,x4,x5=>
 if x4<(a1.AO.length:Int)then
  (idx a1.AO x4).bind fun y1=>
  (rec_scope_asks x5 (⟨y1.Op,y1.N,y1.AO⟩:AT)).bind fun y2=>
  (chk (x4+1)).bind fun z1=>
  lC rec_scope_asks a1 k z1 y2
 else
  some x5
def kF:Nat->(aG Int Bool)->AT->Option (aG Int Bool)
| 0,_,_=>none
| AA+1,a0,a1=>
 (if a1.Op=2 then
  some (aG.upd a0 a1.N true)
 else
  some a0).bind fun x1=>
 lC (kF AA) a1 AA 0 x1
theorem aK5:∀ (AA:Nat),(∀ (p0:Nat) (a0:aG Int Bool) (a1:AT) (r:aG Int Bool) (H:kF AA a0 a1=some r),FnS Tryz.prog 124 [fEq (.map (some p0)),fSt aN a1] [dH bO (fun y=>aR y) p0 a0] (cV []) (fun _=>[dH bO (fun y=>aR y) p0 r])):=by
 intro AA
 induction AA with
 | zero=>exact fun p0 a0 a1 r H=>(by rw [kF]at H;cases H)
 | succ AA ih=>
 have ih_scope_asks:=@ih
 refine ?_
 intro p0 a0 a1 r H
 rw [kF]at H
 refine bL Tryz.func124 rfl Tryz.ntmps124 rfl (fun β=>?_)
 refine Z1 ?_
 refine Tn (cC rfl hh cB) fun b1=>?_
 revert H;refine B1 fun o1 H Hr1=>?_
 refine aS (ι:=aG Int Bool) (fun i=>o1=i) (fun i=>[(0,fEq (.map (some p0))),(3,fEq (ptr b1))]) (fun i=>[aA b1 71 [fI a1.Op,fI a1.N,dK a1.AO],dH bO (fun y=>aR y) p0 i]) ?_ ?_
 revert H;refine I5 (fun c1 H=>?_) fun c1 H=>?_
 refine Z5 ?_
 refine cL ?_
 refine fZ (k:=a1.N) (y:=true) a2e (.inl rfl) rfl (has rfl) (has rfl) rfl (has rfl) rfl vB ?_
 refine Z1 ?_
 refine aH [1,0] (by decide) ?_
 exact Tm (aG.upd a0 a1.N true) (ij H)
 refine Z3 ?_
 exact Tm (a0) (ij H)
 clear H;intro x1 hi;subst o1;have H:=Hr1;clear Hr1;try dsimp only at H
 try dsimp only
 refine Z2 ?_
 refine Yo 0 rfl (eQ rfl hh (sc rfl) rfl (jI iB)) ?_
 refine Z4 ?_
 refine Tl (ι:=Nat × Int × aG Int Bool) (fun i=>lC (kF AA) a1 i.1 i.2.1 i.2.2=_) (fun i=>i.1) (fun i=>[(0,fEq (.map (some p0))),(13,fSl aN a1.AO),(14,fI (a1.AO.length:Int)),(15,fI i.2.1)]) (fun i=>[aA b1 71 [fI a1.Op,fI a1.N,dK a1.AO],dH bO (fun y=>aR y) p0 i.2.2]) (AA,0,x1) H ?_
 clear H;rintro⟨k1,x4,x5⟩ H
 replace H:lC (kF AA) a1 k1 x4 x5=_:=H
 try dsimp only
 obtain _ | k1:=k1
 rw [lC]at H;cases H
 rw [lC]at H
 refine Z3 ?_
 refine aJ ?_
 revert H;refine is (fun c2 H=>?_) fun c2 H=>?_
 refine Z3 ?_
 refine aJ ?_
 revert H;refine B2 fun y1 h1 H=>?_
 refine Z2 ?_
 refine Tn (bG rfl hO rfl) fun b2=>?_
 refine bZ (φs':=[fI y1.Op,fI y1.N,dK y1.AO]) a2e rfl rfl (has rfl) (has rfl) (aC (aI a2e) (aC (aI a2e) (aC (kP) bD))) (sz rfl) rfl rfl rfl ?_
 refine Z4 ?_
 refine dT ?_
 revert H;refine bs fun y2 h2 H=>?_
 refine Tc (ih_scope_asks _ _ _ _ h2) ?_
 revert H;refine B4 fun z1 h3 H=>?_
 refine Z3 ?_
 refine aH [2,0] (by decide) ?_
 exact Tm ((k1,z1,y2)) ⟨H,ls⟩
 refine Z5 ?_
 cases H
 refine aH [1] (by decide) ?_
 exact jQ (.inr rfl) rfl rfl
def lU (AA:Nat) (y3:AV):Nat->Int->(aG Int Bool)->Option (aG Int Bool)
| 0,_,_=>none
| k+1,x10,x11=>
 if x10<(y3.AW.length:Int)then
  (idx y3.AW x10).bind fun y7=>
  (kF AA x11 (⟨y7.Op,y7.N,y7.AO⟩:AT)).bind fun y8=>
  (chk (x10+1)).bind fun z1=>
  lU AA y3 k z1 y8
 else
  some x11
def qP (AA:Nat) (a0:Ae) (x1:Int) (x3:aG Int Bool):Option (aG Int Bool):=
 (idx a0.p.AD x1).bind fun y3=>
 ((hP y3.Op).bind fun y4=>
 (dO 207 (.agg #[]) y4).bind fun y5=>
 match y5 with
 | (u1,x6)=>
 (dO 208 (.agg #[]) y4).bind fun y6=>
 match y6 with
 | (u2,x7)=>
 bif x6 then
  some (aG.upd x3 y3.N true)
 else
  bif x7 then
   some (aG.upd x3 y3.N true)
  else
   some x3).bind fun x5=>
 lU AA y3 AA 0 x5
def nJ (y2:aG Int Bool) (y9:Int):Nat->(List Int)->Int->Option (List Int)
| 0,_,_=>none
| k+1,x15,x16=>
 if x16<y9 then
  (bif ((y2.get x16).getD false)then
   (cQ (x15++[x16])).bind fun z2=>
   some z2
  else
   some x15).bind fun x17=>
  (chk (x16+1)).bind fun z3=>
  nJ y2 y9 k x17 z3
 else
  some x15
def tS (AA:Nat) (a0:Ae) (a1:Int):Option (List Int):=
 (aBl a0 a1).bind fun y1=>
 (aA5 AA (fun (x:Int) (t:aG Int Bool)=>qP AA a0 x t) (aG.none:aG Int Bool) y1.1 y1.2).bind fun y2=>
 ((idx a0.Ak a1).bind fun y9=>
 nJ y2 y9 AA [] 0).bind fun x12=>
 some x12
theorem aJz (AA:Nat)  (a0:Ae) (a1:Int) (r:List Int) (H:tS AA a0 a1=some r):FnS Tryz.prog 87 [aB bR a0,fI a1] [] (fSl tI r) (fun _=>[]):=by
 unfold tS at H
 refine aBD Tryz.func87 rfl Tryz.ntmps87 rfl (fun β=>?_)
 refine Z1 ?_
 refine Tn (cC rfl (has rfl) (cJ (aCP))) fun b1=>?_
 refine Z3 ?_
 refine Tn (aBd (fun y=>aR y) bO rfl) fun b2=>?_
 refine Tn (bG rfl aJa rfl) fun b3=>?_
 refine dN (φs':=[fEq (.map (some b2))]) a2e rfl rfl (has rfl) (has rfl) (aI a2e) (sz rfl) rfl rfl ?_
 refine Z1 ?_
 refine aJ ?_
 revert H;refine B3 fun y1 h1 H=>?_
 refine Tc (aIw _ _ _ h1) ?_
 refine Z2 ?_
 refine aH [0,2,1] (by decide) ?_
 refine T_sub [(0,aB bR a0),(1,fI a1),(2,fEq (ptr b1)),(4,fEq (.slice none 0 0)),(12,fEq (.map (some b2))),(5,fEq (ptr b3)),(13,aB bR a0),(14,fI a1),(15,bU 154 [aB (fA bR) y1.1,aB tI y1.2])] (Sc (Sc (Sc (Sc (Sc (Sc (Sc (Sc (Sc dW.nil))))))))) ?_
 revert H;refine bs fun y2 h2 H=>?_
 refine aIb (s:=(aG.none:aG Int Bool)) (s':=y2) (fun (x:Int)=>[fI x]) (fun (x:Int) (t:aG Int Bool)=>qP AA a0 x t) (fun (t:aG Int Bool)=>[aA b3 201 [fEq (.map (some b2))],aA b1 129 [aB bR a0],dH bO (fun y=>aR y) b2 t]) (has rfl) (cb rfl) rfl (fun _=>rfl) rfl (fun J=>aIN AA J (fun (x:Int) (t:aG Int Bool)=>qP AA a0 x t) (aG.none:aG Int Bool) y1.1 y1.2 y2 h2) (fun β l rec x1 t t' hs hp hY=>?_) (fun rb=>?_)
 generalize t=x3 at *
 have H:qP AA a0 x1 x3=some t':=hY;clear hY;unfold qP at H;try dsimp only at H
 show T β _ _ (aBq [16] ((fun (x:Int)=>[fI x]) x1) [(0,aB bR a0),(1,fI a1),(2,fEq (ptr b1)),(4,fEq (.slice none 0 0)),(12,fEq (.map (some b2))),(5,fEq (ptr b3)),(13,aB bR a0),(14,fI a1),(15,bU 154 [aB (fA bR) y1.1,aB tI y1.2])]) (tObj l (.loop rec) :: [aA b3 201 [fEq (.map (some b2))],aA b1 129 [aB bR a0],dH bO (fun y=>aR y) b2 x3]) _
 refine Z3 ?_
 refine T_begin hs ?_
 revert H;refine B8 fun y3 h3 H=>?_
 refine Z2 ?_
 refine Tn (bG rfl sI rfl) fun b4=>?_
 refine bZ (φs':=[fI y3.Op,fI y3.N,fSl aN y3.AW,fSl tI y3.AO]) a2e rfl rfl (has rfl) (has rfl) (aC (aI a2e) (aC (aI a2e) (aC (aP) (aC (aP) bD)))) (sz rfl) rfl rfl rfl ?_
 revert H;refine B1 fun o1 H Hr1=>?_
 refine aS (ι:=aG Int Bool) (fun i=>o1=i) (fun i=>[(0,aB bR a0),(1,fI a1),(2,fEq (ptr b1)),(4,fEq (.slice none 0 0)),(12,fEq (.map (some b2))),(5,fEq (ptr b3)),(13,aB bR a0),(14,fI a1),(15,bU 154 [aB (fA bR) y1.1,aB tI y1.2]),(7,fEq (ptr b4))]) (fun i=>[aA b4 65 [fI y3.Op,fI y3.N,fSl aN y3.AW,fSl tI y3.AO],aA b3 201 [fEq (.map (some b2))],aA b1 129 [aB bR a0],dH bO (fun y=>aR y) b2 i,tObj l (busy rec)]) ?_ ?_
 revert H;refine B3 fun y4 h4 H=>?_
 refine Tc (aGY _ _ h4) ?_
 revert H;refine B3 fun y5 h5 H=>?_
 obtain⟨u1,x6⟩:=y5;dsimp only at H
 refine Yy (sG rfl (fF rfl mI) aCk aEJ h5) ?_
 revert H;refine B2 fun y6 h6 H=>?_
 obtain⟨u2,x7⟩:=y6;dsimp only at H
 refine Yy (sG rfl (fF rfl mI) aDe aE8 h6) ?_
 refine Z2 ?_
 revert H;refine cs (fun c1 H=>?_) fun c1 H=>?_
 refine Z7 ?_
 refine dD ?_
 refine fZ (k:=y3.N) (y:=true) a2e (.inl rfl) rfl (has rfl) (has rfl) rfl (has rfl) rfl vB ?_
 refine Z3 ?_
 refine aH [1,3,4,0,2] (by decide) ?_
 exact Tm (aG.upd x3 y3.N true) (ij H)
 refine Z2 ?_
 revert H;refine cs (fun c2 H=>?_) fun c2 H=>?_
 refine Z5 ?_
 refine dD ?_
 refine fZ (k:=y3.N) (y:=true) a2e (.inl rfl) rfl (has rfl) (has rfl) rfl (has rfl) rfl vB ?_
 refine Z3 ?_
 refine aH [1,3,4,0,2] (by decide) ?_
 exact Tm (aG.upd x3 y3.N true) (ij H)
 refine Z4 ?_
 refine aH [0,2,3,4,1] (by decide) ?_
 exact Tm (x3) (ij H)
 clear H;intro x5 hi;subst o1;have H:=Hr1;clear Hr1;try dsimp only at H
 try dsimp only
 refine Z7 ?_
 refine Tl (ι:=Nat × Int × aG Int Bool) (fun i=>lU AA y3 i.1 i.2.1 i.2.2=_) (fun i=>i.1) (fun i=>[(0,aB bR a0),(1,fI a1),(2,fEq (ptr b1)),(4,fEq (.slice none 0 0)),(12,fEq (.map (some b2))),(5,fEq (ptr b3)),(13,aB bR a0),(14,fI a1),(15,bU 154 [aB (fA bR) y1.1,aB tI y1.2]),(39,fSl aN y3.AW),(40,fI (y3.AW.length:Int)),(41,fI i.2.1)]) (fun i=>[aA b4 65 [fI y3.Op,fI y3.N,fSl aN y3.AW,fSl tI y3.AO],aA b3 201 [fEq (.map (some b2))],aA b1 129 [aB bR a0],dH bO (fun y=>aR y) b2 i.2.2,tObj l (busy rec)]) (AA,0,x5) H ?_
 clear H;rintro⟨k1,x10,x11⟩ H
 replace H:lU AA y3 k1 x10 x11=_:=H
 try dsimp only
 obtain _ | k1:=k1
 rw [lU]at H;cases H
 rw [lU]at H
 refine Z3 ?_
 refine aJ ?_
 revert H;refine is (fun c3 H=>?_) fun c3 H=>?_
 refine Z3 ?_
 refine aJ ?_
 revert H;refine B2 fun y7 h7 H=>?_
 refine Z2 ?_
 refine Tn (bG rfl hO rfl) fun b5=>?_
 refine bZ (φs':=[fI y7.Op,fI y7.N,dK y7.AO]) a2e rfl rfl (has rfl) (has rfl) (aC (aI a2e) (aC (aI a2e) (aC (kP) bD))) (sz rfl) rfl rfl rfl ?_
 refine Z4 ?_
 refine dD ?_
 revert H;refine bs fun y8 h8 H=>?_
 refine Tc (aK5 _ _ _ _ _ h8) ?_
 revert H;refine B4 fun z1 h9 H=>?_
 refine Z3 ?_
 refine aH [2,3,4,0,5] (by decide) ?_
 exact Tm ((k1,z1,y8)) ⟨H,ls⟩
 refine Z6 ?_
 refine aH [1,2,3,4] (by decide) ?_
 cases H
 refine aH [3,0,1,2] (by decide) ?_
 exact aKq hs hp rfl
 generalize rb=rb1
 show T β _ _ [(0,aB bR a0),(1,fI a1),(2,fEq (ptr b1)),(4,fEq (.slice none 0 0)),(12,fEq (.map (some b2))),(5,fEq (ptr b3)),(13,aB bR a0),(14,fI a1),(15,bU 154 [aB (fA bR) y1.1,aB tI y1.2])] ([pT rb1]++[aA b3 201 [fEq (.map (some b2))],aA b1 129 [aB bR a0],dH bO (fun y=>aR y) b2 y2]) _
 dsimp only [List.append,_root_.List.cons_append,_root_.List.nil_append]
 revert H;refine B5 fun o2 H Hr2=>?_
 refine aS (ι:=List Int × Value) (fun i=>o2=i.1) (fun i=>[(10,fEq i.2)]) (fun i=>[aA b3 201 [fEq (.map (some b2))],aA b1 129 [aB bR a0],dH bO (fun y=>aR y) b2 y2,aD i.2 3 tI i.1,pT rb1]) ?_ ?_
 revert H;refine B6 fun y9 h10 H=>?_
 refine Z5 ?_
 refine gM tI 3 ?_
 refine aH [2,3,4,0,1] (by decide) ?_
 refine Tl (ι:=Nat × List Int × Int × Value) (fun i=>nJ y2 y9 i.1 i.2.1 i.2.2.1=_) (fun i=>i.1) (fun i=>[(5,fEq (ptr b3)),(10,fEq i.2.2.2),(55,fI y9),(56,fI i.2.2.1)]) (fun i=>[aA b3 201 [fEq (.map (some b2))],aA b1 129 [aB bR a0],dH bO (fun y=>aR y) b2 y2,aD i.2.2.2 3 tI i.2.1,pT rb1]) (AA,[],0,(.slice none 0 0)) H ?_
 clear H;rintro⟨k2,x15,x16,v3⟩ H
 replace H:nJ y2 y9 k2 x15 x16=_:=H
 try dsimp only
 obtain _ | k2:=k2
 rw [nJ]at H;cases H
 rw [nJ]at H
 refine aF 3 rfl (fun hc_v3=>?_)
 refine Z3 ?_
 refine aJ ?_
 revert H;refine is (fun c4 H=>?_) fun c4 H=>?_
 revert H;refine B3 fun o3 H Hr3=>?_
 refine aS (ι:=List Int × Value) (fun i=>o3=i.1) (fun i=>[(5,fEq (ptr b3)),(55,fI y9),(56,fI x16),(10,fEq i.2)]) (fun i=>[aA b3 201 [fEq (.map (some b2))],aA b1 129 [aB bR a0],dH bO (fun y=>aR y) b2 y2,aD i.2 3 tI i.1,pT rb1]) ?_ ?_
 refine Z8 ?_
 refine Yo 2 rfl (aJb (zα:=false) (k:=x16) rfl hh hh rfl vB Ent.rfl) ?_
 refine Z1 ?_
 revert H;refine cs (fun c5 H=>?_) fun c5 H=>?_
 refine Z4 ?_
 refine Tn (fN (t:=tI) (xs:=[x16]) rfl (et rfl) (cI.cons rfl (has rfl) (cJ (aI a2e)) cI.nil) rfl rfl rfl) fun b6=>?_
 generalize (Value.slice (some ⟨b6,0,none⟩) _ _)=v5
 refine aF 0 rfl (fun hc_v5=>?_)
 revert H;refine bs fun z2 h11 H=>?_
 refine dD ?_
 refine cL ?_
 refine jE a2e rfl rfl rfl (has rfl) (has rfl) (et rfl) rfl h11 (fun v6=>?_)
 refine aF 0 rfl (fun hc_v6=>?_)
 refine Z4 ?_
 refine aH [1,2,3,0,4] (by decide) ?_
 exact Tm ((z2,v6)) (ij H)
 refine Z4 ?_
 exact Tm ((x15,v3)) (ij H)
 clear H;intro i hi;obtain⟨x17,v4⟩:=i;subst o3;have H:=Hr3;clear Hr3;try dsimp only at H
 try dsimp only
 refine aF 3 rfl (fun hc_v4=>?_)
 revert H;refine B1 fun z3 h12 H=>?_
 refine Z3 ?_
 exact Tm ((k2,x17,z3,v4)) ⟨H,ls⟩
 refine Z6 ?_
 exact Tm ((x15,v3)) (ij H)
 clear H;intro i hi;obtain⟨x12,v1⟩:=i;subst o2;have H:=Hr2;clear Hr2;try dsimp only at H
 try dsimp only
 refine aF 3 rfl (fun hc_v1=>?_)
 refine Z5 ?_
 refine eM ?_
 refine cF (φ:=fSl tI x12) (v:=v1) [10,67,4] dC fz ?_
 refine cE ?_
 cases H
 refine aH [3] (by decide) ?_
 exact T_outM1 [rb1] rfl (bS rfl) rfl rfl
def tA (AA:Nat) (a0:Ae) (a1:Int):Option (List Int):=
 (tS AA a0 a1).bind fun y1=>
 some y1
theorem aLa (AA:Nat)  (a0:Ae) (a1:Int) (r:List Int) (H:tA AA a0 a1=some r):FnS Tryz.prog 86 [aB bR a0,fI a1] [] (fSl tI r) (fun _=>[]):=by
 unfold tA at H
 refine bL Tryz.func86 rfl Tryz.ntmps86 rfl (fun β=>?_)
 revert H;refine B6 fun y1 h1 H=>?_
 refine Tc (aJz _ _ _ _ h1) ?_
 refine Z3 ?_
 cases H
 exact To
def aAa (AA:Nat) (a0:AI):Option ((List (List Int)) × Int):=
 (aBn AA (⟨a0.AH,a0.AD,a0.AF,a0.AG⟩:AI) (fun x=>tA AA x.1 x.2)).bind fun y1=>
 some (y1.1,y1.2)
theorem aKJ (AA:Nat)  (a0:AI) (r:(List (List Int)) × Int) (H:aAa AA a0=some r):FnS Tryz.prog 52 [fSt cK a0] [] (cV [fSl (tSl tI) r.1,fI r.2]) (fun _=>[]):=by
 unfold aAa at H
 refine bL Tryz.func52 rfl Tryz.ntmps52 rfl (fun β=>?_)
 refine Z1 ?_
 refine Tn (cC rfl hh cB) fun b1=>?_
 revert H;refine B5 fun y1 h1 H=>?_
 refine lT a2e rfl rfl rfl hh (aK.cons hh (aK.cons (fF rfl (aCl (cb rfl) (fun (x:Ae × Int) r hx=>aLa AA x.1 x.2 r hx))) aK.nil)) rfl (cb rfl) (aK7 AA (⟨a0.AH,a0.AD,a0.AF,a0.AG⟩:AI) (fun x=>tA AA x.1 x.2) y1 h1) rfl ?_
 refine Z6 ?_
 cases H
 refine aH [] (by decide) ?_
 exact iH rfl (bS rfl) (bS rfl) rfl
open Go.SX Go.SW
def sortRen:Go.Shelf.Ren:=⟨fun x=>match x with
 | 189=>54 | 125=>89 | 257=>88 | 128=>134 | 129=>135
 | 294=>125 | 295=>126 | 296=>127 | 297=>128 | 298=>129
 | 299=>130 | 216=>131 | 300=>132 | 301=>133 | 328=>156
 | 329=>157 | 330=>158 | 331=>159 | 332=>160 | 215=>161 | 343=>173
 | n=>n,fun x=>match x with
 | 28=>27 | 3=>3 | 46=>166 | 0=>0 | 51=>220 | 53=>222 | 4=>4 | 183=>212 | 182=>211 | 131=>217 | 5=>5 | 9=>9
 | 218=>238 | 222=>242 | 228=>270 | 229=>271
 | n=>n,fun x=>x⟩
theorem aGp:Go.Proofs.Lays.n189 Tryz.prog sortRen:=by constructor <;> first | kernel_rfl | (intro w;kernel_rfl)
def compRen:Go.Shelf.Ren:=⟨fun x=>match x with | 20=>55 | n=>n,fun x=>match x with | 0=>0 | 3=>3 | 4=>4 | 22=>27 | n=>n,fun x=>x⟩
theorem aGE:Go.Proofs.Lays2.n20 Tryz.prog compRen:=by constructor <;> first | kernel_rfl | (intro w;kernel_rfl)
theorem heap_row {w:World} {b n:Nat} {c:Array Value} {e:TypeId} {f:Array Value->Array Value} {os:Array Obj} (h:w.heap[b]? =some (.cells c e (0,0))):
 (Go.Sort.grow (Go.Sort.mapBlock (Go.Sort.ahead w n) b f) os).heap[b]? =some (.cells (f c) e (0,0))/\∀ k,k≠b->k<w.heap.size->(Go.Sort.grow (Go.Sort.mapBlock (Go.Sort.ahead w n) b f) os).heap[k]? =w.heap[k]?:=by
 have hb:b<w.heap.size:=(a0d.1 h).1
 constructor
 ·simp only [Go.Sort.grow,Go.Sort.mapBlock,Go.Sort.ahead];rw [a0c (by simpa using hb),a0e,a2d rfl,h];rfl
 ·intro k hk hk2;simp only [Go.Sort.grow,Go.Sort.mapBlock,Go.Sort.ahead];rw [a0c (by simpa using hk2),a0e,a2c (fun e=>hk e.symm)]
theorem st_row {w:World} {m:Mem} {b n:Nat} {c:Array Value} {e:TypeId} {f:Array Value->Array Value} {os:Array Obj} (hS:St ⟨w,m,[b]⟩ m [(b, .cells c e (0,0))] w):
 St ⟨w,m,[b]⟩ m [(b, .cells (f c) e (0,0))] (Go.Sort.grow (Go.Sort.mapBlock (Go.Sort.ahead w n) b f) os):=by
 obtain⟨h1,h2⟩:=heap_row (n:=n) (f:=f) (os:=os) (hS.own _ (.head _))
 have hm:m b=none:=hS.apart _ (.head _)
 refine⟨fun k o hk=>?_,fun x hx=>?_,fun x hx=>?_,by simp,hS.mle,fun k hk=>absurd rfl hk,fun x hx _=>?_,?_,fun k hk hf=>h2 k (fun e=>hf (by simp [e])) hk,rfl,rfl,rfl⟩
 ·have h3:=hS.mem k o hk;rw [h2 k (fun e=>by subst e;rw [hm]at hk;cases hk) (a0d.1 h3).1];exact h3
 ·cases hx with
  | head=>exact h1
  | tail _ h=>cases h
 ·cases hx with
  | head=>exact hm
  | tail _ h=>cases h
 ·cases hx with
  | head=>exact .head _
  | tail _ h=>cases h
 ·simp [Go.Sort.grow,Go.Sort.mapBlock,Go.Sort.ahead]
theorem aGh {m:Mem}:∀ {xs:List Int} {cs:List Value},aT (xs.flatMap (cP .i64).Al) m cs->cs=xs.map (.int .i64)
 | [],_,h=>by
  have h:_=[]:=h;rw [h];rfl
 | x :: xs,_,h=>by
  obtain⟨v,r,rfl,h1,h2⟩:=h;have h1:v= .int .i64 x:=h1;rw [h1,aGh h2];rfl
theorem aGz {m:Mem}:∀ {xs:List Int},aT (xs.flatMap (cP .i64).Al) m (xs.map (.int .i64))
 | []=>rfl
 | x :: xs=>⟨_,_,rfl,rfl,aGz⟩
theorem aFf {m:Mem} {L:Ag} {v:Value} {xs:List Int} (h:bK [aD v 3 (cP .i64) xs] m L):xs.length<=1000000000/\((v= .slice none 0 0/\xs=[]/\L=[]) \/
 ∃ b c cap,v= .slice (some ⟨b,0,none⟩) xs.length cap/\L=[(b, .cells c 3 (0,0))]/\c.size=cap/\xs.length<=cap/\c.toList.take xs.length=xs.map (.int .i64)):=by
 obtain⟨H,R,rfl,⟨cs,h1,h2,h3⟩,hR⟩:=h
 have hR:R=[]:=hR
 subst hR
 have e:=aGh h3
 subst e
 refine⟨h2,?_⟩
 rcases h1.2 with⟨rfl,h4,rfl⟩ | ⟨b,c,cap,rfl,rfl,h4,h5,h6⟩
 ·exact .inl ⟨rfl,a0z h4,rfl⟩
 ·exact .inr ⟨b,c,cap,rfl,rfl,by rw [h4];exact Nat.mul_one _,h5,by simpa using h6⟩
theorem row_of {m:Mem} {b cap:Nat} {c:Array Value} {xs:List Int} (h1:c.size=cap) (h2:xs.length<=cap) (h3:c.toList.take xs.length=xs.map (.int .i64)) (h4:xs.length<=1000000000):
 (aD (.slice (some ⟨b,0,none⟩) xs.length cap) 3 (cP .i64) xs).p m [(b, .cells c 3 (0,0))]:=
 ⟨xs.map (.int .i64),⟨by simp [show(cP .i64).sz=1 from rfl], .inr ⟨b,c,cap,rfl,rfl,by rw [h1];exact(Nat.mul_one _).symm,h2,by simpa using h3⟩⟩,h4,aGz⟩
theorem aEa {w:World} {b:Nat} {c:Array Value} {e:TypeId} {xs:List Int} (h:w.heap[b]? =some (.cells c e (0,0))) (hx:c.toList.take xs.length=xs.map (.int .i64)):Go.Sort.Holds (Value.int .i64) w b 0 xs.toArray:=by
 intro j hj
 have hj:j<xs.length:=by simpa using hj
 refine⟨?_,by simp [World.frozen?,h]⟩
 have h1:c.toList[j]? =some (.int .i64 xs[j]):=by
  have h2:(c.toList.take xs.length)[j]? =some (.int .i64 xs[j]):=by rw [hx];simp [hj]
  rwa [a0O,a2d hj]at h2
 simp only [World.cell?,h,a1O,Option.isSome_none,Bool.false_eq_true,if_false]
 rw [<- a0g,h1]
 congr 2
 simp [hj]
theorem aGi {c:Array Value} {ys:List Int} {k:Nat} (hk:k<=ys.length) (hc:ys.length<=c.size):(Go.Sort.putCells (Value.int .i64) 0 ys.toArray c).toList.take k=(ys.take k).map (.int .i64):=by
 apply a0A
 intro j
 rw [a0O]
 split
 ·rename_i hj;simp only [Go.Sort.putCells,a0g,Array.getElem?_mapIdx];have h1:j<c.size:=by omega
  have h2:j<ys.length:=by omega
  simp [h1,h2,hj]
 ·rename_i hj;rw [a0J];simp;omega
theorem aE2 {c:Array Value} {ys:Array Int}:(Go.Sort.putCells (Value.int .i64) 0 ys c).size=c.size:=by simp [Go.Sort.putCells]
def eU (xs:List Int):List Int:=xs.mergeSort fun x y=>decide (x<=y)
def aCK (a0:List Int):Option (List Int):=some (eU a0)
theorem aJi (p0:Value) (a0 r:List Int) (H:aCK a0=some r):FnS Tryz.prog 54 [fEq p0] [aD p0 3 (cP .i64) a0] (cV []) (fun _=>[aD p0 3 (cP .i64) r]):=by
 have H:eU a0=r:=a1T H
 subst H
 intro m L vs hv hL w hS
 obtain⟨v,_,rfl,hv1,hv2⟩:=hv
 have hv1:v=p0:=hv1
 have hv2:_=[]:=hv2
 subst hv1;subst hv2
 obtain⟨hB,⟨rfl,rfl,rfl⟩ | ⟨b,c,cap,rfl,rfl,h1,h2,h3⟩⟩:=aFf hL
 ·refine(Any.slices_Sort_int_none aGp none 0 w).mono ?_;rintro e w' ⟨rfl,rfl⟩
  have e0:eU []=[]:=by simp [eU]
  exact⟨m,[],hS,_,rfl,⟨[],rfl,rfl⟩,by rw [e0];exact hL⟩
 ·have hw:=hS.own _ (.head _);have hl:(eU a0).length=a0.length:=by simp [eU]
  refine(Any.slices_Sort_int aGp b 0 cap a0 w (aEa hw h3) (a0d.1 hw).1 (by omega)).mono ?_
  rintro e w' ⟨rfl,n,os,rfl⟩
  refine⟨m,_,st_row hS,_,rfl,⟨[],rfl,rfl⟩,_,[],(a0v _).symm,?_,rfl⟩;rw [<- hl];exact row_of (by rw [aE2,h1]) (by omega) (by
   have:=aGi (c:=c) (ys:=eU a0) (k:=(eU a0).length) (a1G _) (by omega)
   rw [a1w]at this;exact this) (by omega)
def aDo (a0:List Int):Option (List Int):=some (Go.Lib.compact a0)
theorem aKs (xs:List Int):(Go.Lib.compact xs).length<=xs.length:=by
 unfold Go.Lib.compact Go.Lib.compactUpTo
 rw [a0V]
 exact a1H (a0U _ _) (by simp)
theorem aIm (p0:Value) (a0 r:List Int) (H:aDo a0=some r):FnS Tryz.prog 55 [fEq p0] [aD p0 3 (cP .i64) a0] (fSl (cP .i64) r) (fun _=>[]):=by
 have H:Go.Lib.compact a0=r:=a1T H
 subst H
 intro m L vs hv hL w hS
 obtain⟨v,_,rfl,hv1,hv2⟩:=hv
 have hv1:v=p0:=hv1
 have hv2:_=[]:=hv2
 subst hv1;subst hv2
 obtain⟨hB,⟨rfl,rfl,rfl⟩ | ⟨b,c,cap,rfl,rfl,h1,h2,h3⟩⟩:=aFf hL
 ·refine(Any.slices_Compact_int_empty aGE none 0 w).mono ?_;rintro e w' ⟨rfl,rfl⟩
  exact⟨m,[],hS,_,rfl,cW m _ rfl,rfl⟩
 ·have hw:=hS.own _ (.head _);have hl:=aKs a0;refine(Any.slices_Compact_int aGE b 0 cap a0 w (aEa hw h3) (by omega) h2).mono ?_
  rintro e w' ⟨rfl,n,rfl⟩
  rw [<- Go.Sort.grow_empty (Go.Sort.putRow _ _ _ _ _)];have hS':=st_row (n:=n) (f:=Go.Sort.putCells (Value.int .i64) 0 (Go.Lib.compact a0++List.replicate (a0.length - (Go.Lib.compact a0).length) 0).toArray) (os:=#[]) hS;have hr:(aD (.slice (some ⟨b,0,none⟩) (Go.Lib.compact a0).length cap) 3 (cP .i64) (Go.Lib.compact a0)).p m [(b, .cells (Go.Sort.putCells (Value.int .i64) 0 (Go.Lib.compact a0++List.replicate (a0.length - (Go.Lib.compact a0).length) 0).toArray c) 3 (0,0))]:=
   row_of (by rw [aE2,h1]) (by omega) (by
    rw [aGi (by simp) (by simp;omega)];simp) (by omega)
  obtain⟨m',h4,h5,h6⟩:=wG (H:=[_]) (R:=[]) hS';exact⟨m',[],h5,_,rfl,dC m _ hr m' h4 h6,rfl⟩
open Go.SX Go.SW Go.Dt
def nZ (w1:List Int) (w2:Int) (y1:List Int):Nat->Int->(List Int)->Option (List Int)
| 0,_,_=>none
| k+1,x3,x4=>
 if x3<(y1.length:Int)then
  ((idx y1 x3).bind fun y2=>
  (idx w1 w2).bind fun y3=>
  if y2<y3 then
   (cQ (x4++[y2])).bind fun z1=>
   some z1
  else
   some x4).bind fun x5=>
  (chk (x3+1)).bind fun z2=>
  nZ w1 w2 y1 k z2 x5
 else
  some x4
def uP (AA:Nat) (a0:Int) (w0:List (List Int)) (w1:List Int) (w2:Int) (w3:List Int):Option (List Int):=
 (idx w0 a0).bind fun y1=>
 nZ w1 w2 y1 AA 0 w3
theorem aEz (AA:Nat) (q3:Nat) (a0:Int) (w0:List (List Int)) (w1:List Int) (w2:Int) (w3:List Int) (r:List Int) (H:uP AA a0 w0 w1 w2 w3=some r):FnS Tryz.prog 53 [fI a0,aB (tSl (tSl tI)) w0,aB (tSl tI) w1,aB tI w2,fEq (.pointer (some ⟨q3,0,none⟩))] [aAV q3 w3] (cV []) (fun _=>[aAV q3 r]):=by
 unfold uP at H
 refine bL Tryz.func53 rfl Tryz.ntmps53 rfl (fun β=>?_)
 refine aDL (fun v1=>?_)
 refine aF 1 rfl (fun hc_v1=>?_)
 revert H;refine B3 fun y1 h1 H=>?_
 refine Z6 ?_
 refine Tl (ι:=Nat × Int × List Int × Value) (fun i=>nZ w1 w2 y1 i.1 i.2.1 i.2.2.1=_) (fun i=>i.1) (fun i=>[(2,aB (tSl tI) w1),(3,aB tI w2),(4,fEq (ptr q3)),(11,fSl tI y1),(12,fI (y1.length:Int)),(13,fI i.2.1)]) (fun i=>[aA q3 27 [fEq i.2.2.2],aD i.2.2.2 3 tI i.2.2.1]) (AA,0,w3,v1) H ?_
 clear H;rintro⟨k1,x3,x4,v3⟩ H
 replace H:nZ w1 w2 y1 k1 x3 x4=_:=H
 try dsimp only
 obtain _ | k1:=k1
 rw [nZ]at H;cases H
 rw [nZ]at H
 refine aF 1 rfl (fun hc_v3=>?_)
 refine Z3 ?_
 refine aJ ?_
 revert H;refine is (fun c1 H=>?_) fun c1 H=>?_
 revert H;refine B3 fun o1 H Hr1=>?_
 refine aS (ι:=List Int × Value) (fun i=>o1=i.1) (fun i=>[(2,aB (tSl tI) w1),(3,aB tI w2),(4,fEq (ptr q3)),(11,fSl tI y1),(12,fI (y1.length:Int)),(13,fI x3)]) (fun i=>[aA q3 27 [fEq i.2],aD i.2 3 tI i.1]) ?_ ?_
 revert H;refine B2 fun y2 h2 H=>?_
 revert H;refine B8 fun y3 h3 H=>?_
 revert H;refine I4 (fun c2 H=>?_) fun c2 H=>?_
 refine Z4 ?_
 refine Tn (fN (t:=tI) (xs:=[y2]) rfl (et rfl) (cI.cons rfl (has rfl) (cJ (aI a2e)) cI.nil) rfl rfl rfl) fun b1=>?_
 generalize (Value.slice (some ⟨b1,0,none⟩) _ _)=v5
 refine aF 0 rfl (fun hc_v5=>?_)
 revert H;refine bs fun z1 h4 H=>?_
 refine dT ?_
 refine cL ?_
 refine jE a2e rfl rfl rfl (has rfl) (has rfl) (et rfl) rfl h4 (fun v6=>?_)
 refine aF 0 rfl (fun hc_v6=>?_)
 refine cL ?_
 refine dN (φs':=[fEq v6]) a2e rfl rfl (has rfl) (has rfl) (aI hc_v6) (sz rfl) rfl rfl ?_
 refine Z3 ?_
 exact Tm ((z1,v6)) (ij H)
 refine Z4 ?_
 exact Tm ((x4,v3)) (ij H)
 clear H;intro i hi;obtain⟨x5,v4⟩:=i;subst o1;have H:=Hr1;clear Hr1;try dsimp only at H
 try dsimp only
 refine aF 1 rfl (fun hc_v4=>?_)
 revert H;refine B1 fun z2 h5 H=>?_
 refine Z3 ?_
 exact Tm ((k1,z2,x5,v4)) ⟨H,ls⟩
 refine Z5 ?_
 refine aDq (x:=x4) ?_
 cases H
 exact jQ (.inr rfl) rfl rfl
def oJ (AA:Nat) (y1:(List (List Int)) × Int) (y2:(List Int) × Int) (x4:Int) (y5:AN):Nat->Int->(List Int)->Option (List Int)
| 0,_,_=>none
| k+1,x10,x11=>
 if x10<(y5.AP.length:Int)then
  (idx y5.AP x10).bind fun y6=>
  (uP AA y6.AU y1.1 y2.1 x4 x11).bind fun y7=>
  (chk (x10+1)).bind fun z1=>
  oJ AA y1 y2 x4 y5 k z1 y7
 else
  some x11
def nK (AA:Nat) (y1:(List (List Int)) × Int) (y2:(List Int) × Int) (x4:Int) (y8:AN):Nat->Int->(List Int)->Option (List Int)
| 0,_,_=>none
| k+1,x15,x16=>
 if x15<(y8.AS.length:Int)then
  (idx y8.AS x15).bind fun y9=>
  (uP AA y9.AU y1.1 y2.1 x4 x16).bind fun y10=>
  (chk (x15+1)).bind fun z2=>
  nK AA y1 y2 x4 y8 k z2 y10
 else
  some x16
def oQ (AA:Nat) (a0:AI) (y1:(List (List Int)) × Int) (y2:(List Int) × Int):Nat->Int->(aG Int (List Int))->Option (aG Int (List Int))
| 0,_,_=>none
| k+1,x4,x5=>
 if x4<(a0.AD.length:Int)then
  ((idx a0.AD x4).bind fun y3=>
  if y3.Op≠4 then
   (idx y1.1 x4).bind fun y4=>
   some (aG.upd x5 x4 y4)
  else
   ((idx a0.AF y3.N).bind fun y5=>
   oJ AA y1 y2 x4 y5 AA 0 []).bind fun x7=>
   ((idx a0.AF y3.N).bind fun y8=>
   nK AA y1 y2 x4 y8 AA 0 x7).bind fun x12=>
   (aCK x12).bind fun y11=>
   (aDo y11).bind fun y12=>
   some (aG.upd x5 x4 y12)).bind fun x6=>
  (chk (x4+1)).bind fun z3=>
  oQ AA a0 y1 y2 k z3 x6
 else
  some x5
def tK (AA:Nat) (a0:AI):Option ((aG Int (List Int)) × Int):=
 (aAa AA (⟨a0.AH,a0.AD,a0.AF,a0.AG⟩:AI)).bind fun y1=>
 if y1.2≠0 then
  some (aG.none,y1.2)
 else
  (uX AA (⟨a0.AH,a0.AD,a0.AF,a0.AG⟩:AI)).bind fun y2=>
  (oQ AA a0 y1 y2 AA 0 (aG.none:aG Int (List Int))).bind fun x1=>
  (idx y1.1 a0.AG).bind fun y13=>
  some (aG.upd x1 (-1) y13,0)
theorem aHM (AA:Nat)  (a0:AI) (r:(aG Int (List Int)) × Int) (H:tK AA a0=some r):FnS Tryz.prog 21 [fSt cK a0] [] (cV [jO bO (fun y=>fSl tI y) r.1,fI r.2]) (fun _=>[]):=by
 unfold tK at H
 refine bL Tryz.func21 rfl Tryz.ntmps21 rfl (fun β=>?_)
 refine Z1 ?_
 refine Tn (cC rfl hh cB) fun b1=>?_
 revert H;refine B5 fun y1 h1 H=>?_
 refine Tc (aKJ _ _ _ h1) ?_
 refine Z3 ?_
 refine Tn (bG rfl ty_ze_45 rfl) fun b2=>?_
 refine dN (φs':=[fSl (tSl tI) y1.1]) a2e rfl rfl (has rfl) (has rfl) (aP) (sz rfl) rfl rfl ?_
 refine Z2 ?_
 refine aJ ?_
 revert H;refine I4 (fun c1 H=>?_) fun c1 H=>?_
 refine Z7 ?_
 cases H
 refine aH [] (by decide) ?_
 exact iH rfl (eL rfl aJt) (bS rfl) rfl
 revert H;refine B5 fun y2 h2 H=>?_
 refine Tc (aFS _ _ _ h2) ?_
 refine Z3 ?_
 refine Tn (bG rfl aAb rfl) fun b3=>?_
 refine dN (φs':=[fSl tI y2.1]) a2e rfl rfl (has rfl) (has rfl) (aP) (sz rfl) rfl rfl ?_
 refine Z3 ?_
 refine Tn (aBd (fun y=>fSl tI y) bO rfl) fun b4=>?_
 revert H;refine B2 fun o1 H Hr1=>?_
 refine aS (ι:=aG Int (List Int)) (fun i=>o1=i) (fun i=>[(1,fEq (ptr b1)),(4,aB (tSl (tSl tI)) y1.1),(8,fEq (.map (some b4)))]) (fun i=>[aA b1 26 [fSl aL a0.AH,fSl aY a0.AD,fSl aE a0.AF,fI a0.AG],dH bO (fun y=>fSl tI y) b4 i]) ?_ ?_
 refine Z7 ?_
 refine dT ?_
 refine cF (φ:=aB (tSl (tSl tI)) y1.1) (v:=ptr b2) [4] (gH aO.rfl) fz ?_
 refine cE ?_
 refine cL ?_
 refine cF (φ:=aB (tSl tI) y2.1) (v:=ptr b3) [6] (gH aO.rfl) fz ?_
 refine cE ?_
 refine aH [1,0] (by decide) ?_
 refine Tl (ι:=Nat × Int × aG Int (List Int)) (fun i=>oQ AA a0 y1 y2 i.1 i.2.1 i.2.2=_) (fun i=>i.1) (fun i=>[(1,fEq (ptr b1)),(4,aB (tSl (tSl tI)) y1.1),(6,aB (tSl tI) y2.1),(8,fEq (.map (some b4))),(32,fSl aY a0.AD),(33,fI (a0.AD.length:Int)),(34,fI i.2.1)]) (fun i=>[aA b1 26 [fSl aL a0.AH,fSl aY a0.AD,fSl aE a0.AF,fI a0.AG],dH bO (fun y=>fSl tI y) b4 i.2.2]) (AA,0,(aG.none:aG Int (List Int))) H ?_
 clear H;rintro⟨k1,x4,x5⟩ H
 replace H:oQ AA a0 y1 y2 k1 x4 x5=_:=H
 try dsimp only
 obtain _ | k1:=k1
 rw [oQ]at H;cases H
 rw [oQ]at H
 refine Z3 ?_
 refine aJ ?_
 revert H;refine is (fun c2 H=>?_) fun c2 H=>?_
 revert H;refine B3 fun o2 H Hr2=>?_
 refine aS (ι:=aG Int (List Int)) (fun i=>o2=i) (fun i=>[(1,fEq (ptr b1)),(4,aB (tSl (tSl tI)) y1.1),(6,aB (tSl tI) y2.1),(8,fEq (.map (some b4))),(32,fSl aY a0.AD),(33,fI (a0.AD.length:Int)),(34,fI x4)]) (fun i=>[aA b1 26 [fSl aL a0.AH,fSl aY a0.AD,fSl aE a0.AF,fI a0.AG],dH bO (fun y=>fSl tI y) b4 i]) ?_ ?_
 revert H;refine B3 fun y3 h3 H=>?_
 refine Z2 ?_
 refine Tn (bG rfl aBo rfl) fun b5=>?_
 refine Tn (bG rfl sI rfl) fun b6=>?_
 refine cL ?_
 refine dN (φs':=[fI x4]) a2e rfl rfl (has rfl) (has rfl) (aI a2e) (sz rfl) rfl rfl ?_
 refine cL ?_
 refine bZ (φs':=[fI y3.Op,fI y3.N,fSl aN y3.AW,fSl tI y3.AO]) a2e rfl rfl (has rfl) (has rfl) (aC (aI a2e) (aC (aI a2e) (aC (aP) (aC (aP) bD)))) (sz rfl) rfl rfl rfl ?_
 refine Z1 ?_
 refine aJ ?_
 revert H;refine I5 (fun c3 H=>?_) fun c3 H=>?_
 refine Z1 ?_
 refine aJ ?_
 revert H;refine bs fun y4 h4 H=>?_
 apply bW (ods:=[_,_,_,_,_,_]) 6 0 4 bV rfl rfl rfl
 refine ND ?_
 refine M6 ?_
 intros
 refine Z1 ?_
 refine eM ?_
 refine fZ (k:=x4) (y:=y4) a2e (.inl rfl) rfl (has rfl) (has rfl) rfl (has rfl) rfl qU ?_
 refine Z5 ?_
 refine aH [3,0] (by decide) ?_
 exact Tm (aG.upd x5 x4 y4) (ij H)
 exact fk
 kernel_rfl
 refine Z4 ?_
 refine Tn (bG rfl aAb rfl) fun b7=>?_
 refine Z2 ?_
 refine dT ?_
 refine cF (φ:=aB tI x4) (v:=ptr b5) [9] (gH aO.rfl) fz ?_
 refine cE ?_
 refine Yy (mR rfl (aK.cons hh (aK.cons hh (aK.cons hh (aK.cons hh aK.nil))))) ?_
 revert H;refine B2 fun o3 H Hr3=>?_
 refine aS (ι:=List Int × Value) (fun i=>o3=i.1) (fun i=>[(1,fEq (ptr b1)),(4,aB (tSl (tSl tI)) y1.1),(6,aB (tSl tI) y2.1),(8,fEq (.map (some b4))),(32,fSl aY a0.AD),(33,fI (a0.AD.length:Int)),(34,fI x4),(9,aB tI x4),(10,fEq (ptr b6)),(11,fEq (ptr b7)),(12,bU 53 [aB (tSl (tSl tI)) y1.1,aB (tSl tI) y2.1,aB tI x4,fEq (ptr b7)])]) (fun i=>[aA b7 27 [fEq i.2],aA b6 65 [fI y3.Op,fI y3.N,fSl aN y3.AW,fSl tI y3.AO],aA b1 26 [fSl aL a0.AH,fSl aY a0.AD,fSl aE a0.AF,fI a0.AG],dH bO (fun y=>fSl tI y) b4 x5,aD i.2 3 tI i.1]) ?_ ?_
 revert H;refine B5 fun y5 h5 H=>?_
 refine Z7 ?_
 refine gM tI 3 ?_
 refine aH [1,2,3,4,0] (by decide) ?_
 refine Tl (ι:=Nat × Int × List Int × Value) (fun i=>oJ AA y1 y2 x4 y5 i.1 i.2.1 i.2.2.1=_) (fun i=>i.1) (fun i=>[(1,fEq (ptr b1)),(4,aB (tSl (tSl tI)) y1.1),(6,aB (tSl tI) y2.1),(8,fEq (.map (some b4))),(32,fSl aY a0.AD),(33,fI (a0.AD.length:Int)),(34,fI x4),(9,aB tI x4),(10,fEq (ptr b6)),(11,fEq (ptr b7)),(12,bU 53 [aB (tSl (tSl tI)) y1.1,aB (tSl tI) y2.1,aB tI x4,fEq (ptr b7)]),(55,fSl bF y5.AP),(56,fI (y5.AP.length:Int)),(57,fI i.2.1)]) (fun i=>[aA b7 27 [fEq i.2.2.2],aA b6 65 [fI y3.Op,fI y3.N,fSl aN y3.AW,fSl tI y3.AO],aA b1 26 [fSl aL a0.AH,fSl aY a0.AD,fSl aE a0.AF,fI a0.AG],dH bO (fun y=>fSl tI y) b4 x5,aD i.2.2.2 3 tI i.2.2.1]) (AA,0,[],(.slice none 0 0)) H ?_
 clear H;rintro⟨k2,x10,x11,v3⟩ H
 replace H:oJ AA y1 y2 x4 y5 k2 x10 x11=_:=H
 try dsimp only
 obtain _ | k2:=k2
 rw [oJ]at H;cases H
 rw [oJ]at H
 refine aF 4 rfl (fun hc_v3=>?_)
 refine Z3 ?_
 refine aJ ?_
 revert H;refine is (fun c4 H=>?_) fun c4 H=>?_
 refine Z3 ?_
 refine aJ ?_
 revert H;refine B2 fun y6 h6 H=>?_
 refine Z2 ?_
 refine Tn (bG rfl sJ rfl) fun b8=>?_
 refine bZ (φs':=[fI y6.At,fSl tI y6.Ab,fI y6.AU]) a2e rfl rfl (has rfl) (has rfl) (aC (aI a2e) (aC (aP) (aC (aI a2e) bD))) (sz rfl) rfl rfl rfl ?_
 refine Z5 ?_
 refine cO ?_
 refine dT ?_
 refine aDq (x:=x11) ?_
 revert H;refine bs fun y7 h7 H=>?_
 refine gI a2e rfl rfl rfl (has rfl) (aK.cons (has rfl) aK.nil) rfl (cb rfl) (aEz AA b7 y6.AU y1.1 y2.1 x4 x11 y7 h7) rfl ?_
 refine aDL (fun v4=>?_)
 refine aF 1 rfl (fun hc_v4=>?_)
 revert H;refine B4 fun z1 h8 H=>?_
 refine Z3 ?_
 refine aH [0,3,4,5,1] (by decide) ?_
 exact Tm ((k2,z1,y7,v4)) ⟨H,ls⟩
 refine Z6 ?_
 exact Tm ((x11,v3)) (ij H)
 clear H;intro i hi;obtain⟨x7,v1⟩:=i;subst o3;have H:=Hr3;clear Hr3;try dsimp only at H
 try dsimp only
 refine aF 4 rfl (fun hc_v1=>?_)
 revert H;refine bs fun o4 H Hr4=>?_
 refine aS (ι:=List Int × Value) (fun i=>o4=i.1) (fun i=>[(1,fEq (ptr b1)),(4,aB (tSl (tSl tI)) y1.1),(6,aB (tSl tI) y2.1),(8,fEq (.map (some b4))),(32,fSl aY a0.AD),(33,fI (a0.AD.length:Int)),(34,fI x4),(9,aB tI x4),(11,fEq (ptr b7))]) (fun i=>[aA b7 27 [fEq i.2],aA b6 65 [fI y3.Op,fI y3.N,fSl aN y3.AW,fSl tI y3.AO],aA b1 26 [fSl aL a0.AH,fSl aY a0.AD,fSl aE a0.AF,fI a0.AG],dH bO (fun y=>fSl tI y) b4 x5,aD i.2 3 tI i.1]) ?_ ?_
 revert H;refine B5 fun y8 h9 H=>?_
 refine Z7 ?_
 refine Tl (ι:=Nat × Int × List Int × Value) (fun i=>nK AA y1 y2 x4 y8 i.1 i.2.1 i.2.2.1=_) (fun i=>i.1) (fun i=>[(1,fEq (ptr b1)),(4,aB (tSl (tSl tI)) y1.1),(6,aB (tSl tI) y2.1),(8,fEq (.map (some b4))),(32,fSl aY a0.AD),(33,fI (a0.AD.length:Int)),(34,fI x4),(9,aB tI x4),(11,fEq (ptr b7)),(12,bU 53 [aB (tSl (tSl tI)) y1.1,aB (tSl tI) y2.1,aB tI x4,fEq (ptr b7)]),(72,fSl bQ y8.AS),(73,fI (y8.AS.length:Int)),(74,fI i.2.1)]) (fun i=>[aA b7 27 [fEq i.2.2.2],aA b6 65 [fI y3.Op,fI y3.N,fSl aN y3.AW,fSl tI y3.AO],aA b1 26 [fSl aL a0.AH,fSl aY a0.AD,fSl aE a0.AF,fI a0.AG],dH bO (fun y=>fSl tI y) b4 x5,aD i.2.2.2 3 tI i.2.2.1]) (AA,0,x7,v1) H ?_
 clear H;rintro⟨k3,x15,x16,v7⟩ H
 replace H:nK AA y1 y2 x4 y8 k3 x15 x16=_:=H
 try dsimp only
 obtain _ | k3:=k3
 rw [nK]at H;cases H
 rw [nK]at H
 refine aF 4 rfl (fun hc_v7=>?_)
 refine Z3 ?_
 refine aJ ?_
 revert H;refine is (fun c5 H=>?_) fun c5 H=>?_
 refine Z3 ?_
 refine aJ ?_
 revert H;refine B2 fun y9 h10 H=>?_
 refine Z2 ?_
 refine Tn (bG rfl vL rfl) fun b9=>?_
 refine bZ (φs':=[fI y9.In,fI y9.AU]) a2e rfl rfl (has rfl) (has rfl) (aC (aI a2e) (aC (aI a2e) bD)) (sz rfl) rfl rfl rfl ?_
 refine Z5 ?_
 refine cO ?_
 refine dT ?_
 refine aDq (x:=x16) ?_
 revert H;refine bs fun y10 h11 H=>?_
 refine gI a2e rfl rfl rfl (has rfl) (aK.cons (has rfl) aK.nil) rfl (cb rfl) (aEz AA b7 y9.AU y1.1 y2.1 x4 x16 y10 h11) rfl ?_
 refine aDL (fun v8=>?_)
 refine aF 1 rfl (fun hc_v8=>?_)
 revert H;refine B4 fun z2 h12 H=>?_
 refine Z3 ?_
 refine aH [0,3,4,5,1] (by decide) ?_
 exact Tm ((k3,z2,y10,v8)) ⟨H,ls⟩
 refine Z6 ?_
 exact Tm ((x16,v7)) (ij H)
 clear H;intro i hi;obtain⟨x12,v5⟩:=i;subst o4;have H:=Hr4;clear Hr4;try dsimp only at H
 try dsimp only
 refine aF 4 rfl (fun hc_v5=>?_)
 refine Z2 ?_
 refine dD ?_
 revert H;refine bs fun y11 h13 H=>?_
 refine Tc (aJi _ _ _ h13) ?_
 revert H;refine B1 fun y12 h14 H=>?_
 apply bW (ods:=[_,_,_,_]) 4 0 5 bV rfl rfl rfl
 refine ND ?_
 refine M3 ?_
 intros
 refine N_callT (od:=odC [0] true (fSl tI y12) [eV]) (Φ:=fSl tI y12) (p:=0) rfl (fun _=>rfl) a2e rfl rfl rfl (has rfl) (aK.cons (has rfl) aK.nil) rfl (cb rfl) (aIm v5 y11 y12 h14) (fun _=>?_)
 refine Z1 ?_
 refine dD ?_
 refine fZ (k:=x4) (y:=y12) a2e (.inl rfl) rfl (has rfl) (has rfl) rfl (has rfl) rfl qU ?_
 refine Z3 ?_
 refine aH [4,0] (by decide) ?_
 exact Tm (aG.upd x5 x4 y12) (ij H)
 exact fk
 kernel_rfl
 clear H;intro x6 hi;subst o2;have H:=Hr2;clear Hr2;try dsimp only at H
 try dsimp only
 revert H;refine B1 fun z3 h15 H=>?_
 refine Z3 ?_
 exact Tm ((k1,z3,x6)) ⟨H,ls⟩
 refine Z6 ?_
 exact Tm (x5) (ij H)
 clear H;intro x1 hi;subst o1;have H:=Hr1;clear Hr1;try dsimp only at H
 try dsimp only
 revert H;refine B5 fun y13 h16 H=>?_
 refine Z2 ?_
 refine cL ?_
 refine fZ (k:=(-1)) (y:=y13) a2e (.inl rfl) rfl (has rfl) (has rfl) rfl (has rfl) rfl qU ?_
 refine Z7 ?_
 refine cF (φ:=jO bO (fun y=>fSl tI y) (aG.upd x1 (-1) y13)) (v:= .map (some b4)) [8,90,96,2] aG2 fz ?_
 refine cE ?_
 cases H
 refine aH [] (by decide) ?_
 exact iH rfl (bS rfl) (bS rfl) rfl
def tW (a0:List ByteArray):Option (List ByteArray):=
 (cQ (([]:List ByteArray)++a0)).bind fun z1=>
 some z1
theorem aFX  (a0:List ByteArray) (r:List ByteArray) (H:tW a0=some r):FnS Tryz.prog 23 [fSl aL a0] [] (fSl aL r) (fun _=>[]):=by
 unfold tW at H
 refine bL Tryz.func23 rfl Tryz.ntmps23 rfl (fun β=>?_)
 refine Z3 ?_
 refine aJ ?_
 refine Z2 ?_
 refine Yy (aAD rfl hh (us rfl)) ?_
 refine Z1 ?_
 refine aBJ (has rfl) (fun hx=>?_) ?_
 replace H:some []=some r:=by subst hx;exact H
 refine Z4 ?_
 cases H
 exact dR rfl (eL rfl cW) rfl
 refine Z3 ?_
 refine Tn (fN (t:=aL) (xs:=([]:List ByteArray)) rfl (et rfl) cI.nil rfl rfl rfl) fun b1=>?_
 generalize (Value.slice (some ⟨b1,0,none⟩) _ _)=v1
 refine aF 0 rfl (fun hc_v1=>?_)
 revert H;refine B1 fun z1 h1 H=>?_
 refine rG (ys:=a0) a2e rfl rfl rfl (has rfl) (has rfl) (et rfl) rfl h1 (fun v2=>?_)
 refine aF 0 rfl (fun hc_v2=>?_)
 refine Z3 ?_
 refine cF (φ:=fSl aL z1) (v:=v2) [2,7] dC fz ?_
 refine cE ?_
 cases H
 exact To
def fC (a0:List Int):Option (List Int):=
 (cQ (([]:List Int)++a0)).bind fun z1=>
 some z1
theorem aHm  (a0:List Int) (r:List Int) (H:fC a0=some r):FnS Tryz.prog 24 [fSl tI a0] [] fB (fun v=>[(fun v=>aD v 3 tI r) v]):=by
 unfold fC at H
 refine bL Tryz.func24 rfl Tryz.ntmps24 rfl (fun β=>?_)
 refine Z3 ?_
 refine aJ ?_
 refine Z2 ?_
 refine Yy (aAD rfl hh (us rfl)) ?_
 refine Z1 ?_
 refine aBJ (has rfl) (fun hx=>?_) ?_
 replace H:some ([]:List Int)=some r:=by subst hx;exact H
 refine Z4 ?_
 refine gM tI 3 ?_
 cases H
 exact T_outO rfl (bS rfl) (fun _ _ _=>trivial) rfl
 refine Z3 ?_
 refine Tn (fN (t:=tI) (xs:=([]:List Int)) rfl (et rfl) cI.nil rfl rfl rfl) fun b1=>?_
 generalize (Value.slice (some ⟨b1,0,none⟩) _ _)=v1
 refine aF 0 rfl (fun hc_v1=>?_)
 revert H;refine B1 fun z1 h1 H=>?_
 refine rG (ys:=a0) a2e rfl rfl rfl (has rfl) (has rfl) (et rfl) rfl h1 (fun v2=>?_)
 refine aF 0 rfl (fun hc_v2=>?_)
 refine Z3 ?_
 cases H
 exact T_outO rfl (bS rfl) (fun _ _ _=>trivial) rfl
theorem rP  (a0:List Int) (r:List Int) (H:fC a0=some r):FnS Tryz.prog 24 [fSl tI a0] [] (fSl tI r) (fun _=>[]):=(aHm a0 r H).frz (fun v=>dC)
def aAq (a0:List An):Option (List An):=
 (cQ (([]:List An)++a0)).bind fun z1=>
 some z1
theorem aJP  (a0:List An) (r:List An) (H:aAq a0=some r):FnS Tryz.prog 58 [fSl bX a0] [] (fSl bX r) (fun _=>[]):=by
 unfold aAq at H
 refine bL Tryz.func58 rfl Tryz.ntmps58 rfl (fun β=>?_)
 refine Z3 ?_
 refine aJ ?_
 refine Z2 ?_
 refine Yy (aAD rfl hh (us rfl)) ?_
 refine Z1 ?_
 refine aBJ (has rfl) (fun hx=>?_) ?_
 replace H:some []=some r:=by subst hx;exact H
 refine Z4 ?_
 cases H
 exact dR rfl (eL rfl cW) rfl
 refine Z3 ?_
 refine Tn (fN (t:=bX) (xs:=([]:List An)) rfl (et rfl) cI.nil rfl rfl rfl) fun b1=>?_
 generalize (Value.slice (some ⟨b1,0,none⟩) _ _)=v1
 refine aF 0 rfl (fun hc_v1=>?_)
 revert H;refine B1 fun z1 h1 H=>?_
 refine rG (ys:=a0) a2e rfl rfl rfl (has rfl) (has rfl) (et rfl) rfl h1 (fun v2=>?_)
 refine aF 0 rfl (fun hc_v2=>?_)
 refine Z3 ?_
 refine cF (φ:=fSl bX z1) (v:=v2) [2,7] dC fz ?_
 refine cE ?_
 cases H
 exact To
def aAl (a0:List Am):Option (List Am):=
 (cQ (([]:List Am)++a0)).bind fun z1=>
 some z1
theorem aH7  (a0:List Am) (r:List Am) (H:aAl a0=some r):FnS Tryz.prog 59 [fSl bQ a0] [] (fSl bQ r) (fun _=>[]):=by
 unfold aAl at H
 refine bL Tryz.func59 rfl Tryz.ntmps59 rfl (fun β=>?_)
 refine Z3 ?_
 refine aJ ?_
 refine Z2 ?_
 refine Yy (aAD rfl hh (us rfl)) ?_
 refine Z1 ?_
 refine aBJ (has rfl) (fun hx=>?_) ?_
 replace H:some []=some r:=by subst hx;exact H
 refine Z4 ?_
 cases H
 exact dR rfl (eL rfl cW) rfl
 refine Z3 ?_
 refine Tn (fN (t:=bQ) (xs:=([]:List Am)) rfl (et rfl) cI.nil rfl rfl rfl) fun b1=>?_
 generalize (Value.slice (some ⟨b1,0,none⟩) _ _)=v1
 refine aF 0 rfl (fun hc_v1=>?_)
 revert H;refine B1 fun z1 h1 H=>?_
 refine rG (ys:=a0) a2e rfl rfl rfl (has rfl) (has rfl) (et rfl) rfl h1 (fun v2=>?_)
 refine aF 0 rfl (fun hc_v2=>?_)
 refine Z3 ?_
 refine cF (φ:=fSl bQ z1) (v:=v2) [2,7] dC fz ?_
 refine cE ?_
 cases H
 exact To
def mT (y1:AN):Nat->Int->(List Ai)->Option (List Ai)
| 0,_,_=>none
| k+1,x10,x11=>
 if x10<(y1.AP.length:Int)then
  (idx y1.AP x10).bind fun y4=>
  (fC y4.Ab).bind fun y5=>
  (cQ (x11++[(⟨y4.At,y5,y4.AU⟩:Ai)])).bind fun z1=>
  (chk (x10+1)).bind fun z2=>
  mT y1 k z2 z1
 else
  some x11
def nI (AA:Nat) (a0:List AN):Nat->(List AN)->Int->Option (List AN)
| 0,_,_=>none
| k+1,x4,x5=>
 if x5<(a0.length:Int)then
  ((idx a0 x5).bind fun y1=>
  (aAq y1.AQ).bind fun y2=>
  (aAl y1.AS).bind fun y3=>
  (mT y1 AA 0 []).bind fun x7=>
  (cQ (x4++[(⟨y2,y3,x7⟩:AN)])).bind fun z3=>
  some z3).bind fun x6=>
  (chk (x5+1)).bind fun z4=>
  nI AA a0 k x6 z4
 else
  some x4
def tT (AA:Nat) (a0:List AN):Option (List AN):=
 (nI AA a0 AA [] 0).bind fun x1=>
 some x1
theorem aFW (AA:Nat)  (a0:List AN) (r:List AN) (H:tT AA a0=some r):FnS Tryz.prog 25 [fSl aE a0] [] (fSl aE r) (fun _=>[]):=by
 unfold tT at H
 refine bL Tryz.func25 rfl Tryz.ntmps25 rfl (fun β=>?_)
 revert H;refine B6 fun o1 H Hr1=>?_
 refine aS (ι:=List AN × Value) (fun i=>o1=i.1) (fun i=>[(3,fEq i.2)]) (fun i=>[aD i.2 77 aE i.1]) ?_ ?_
 refine Z6 ?_
 refine gM aE 77 ?_
 refine Tl (ι:=Nat × List AN × Int × Value) (fun i=>nI AA a0 i.1 i.2.1 i.2.2.1=_) (fun i=>i.1) (fun i=>[(3,fEq i.2.2.2),(9,fSl aE a0),(10,fI (a0.length:Int)),(11,fI i.2.2.1)]) (fun i=>[aD i.2.2.2 77 aE i.2.1]) (AA,[],0,(.slice none 0 0)) H ?_
 clear H;rintro⟨k1,x4,x5,v3⟩ H
 replace H:nI AA a0 k1 x4 x5=_:=H
 try dsimp only
 obtain _ | k1:=k1
 rw [nI]at H;cases H
 rw [nI]at H
 refine aF 0 rfl (fun hc_v3=>?_)
 refine Z3 ?_
 refine aJ ?_
 revert H;refine is (fun c1 H=>?_) fun c1 H=>?_
 revert H;refine B3 fun o2 H Hr2=>?_
 refine aS (ι:=List AN × Value) (fun i=>o2=i.1) (fun i=>[(9,fSl aE a0),(10,fI (a0.length:Int)),(11,fI x5),(3,fEq i.2)]) (fun i=>[aD i.2 77 aE i.1]) ?_ ?_
 revert H;refine B2 fun y1 h1 H=>?_
 refine Z2 ?_
 refine Tn (bG rfl uD rfl) fun b1=>?_
 refine bZ (φs':=[fSl bX y1.AQ,fSl bQ y1.AS,fSl bF y1.AP]) a2e rfl rfl (has rfl) (has rfl) (aC (aP) (aC (aP) (aC (aP) bD))) (sz rfl) rfl rfl rfl ?_
 refine Z1 ?_
 refine aJ ?_
 revert H;refine bs fun y2 h2 H=>?_
 revert H;refine bs fun y3 h3 H=>?_
 apply bW (ods:=[_,_,_,_,_,_,_,_,_]) 9 1 3 bV rfl rfl rfl
 refine ND ?_
 refine M2 ?_
 intros
 refine Nc (aJP _ _ h2) fun _=>?_
 refine M2 ?_
 intros
 refine Nc (aH7 _ _ h3) fun _=>?_
 refine My (fY (ψs:=[fSl bX y2,fSl bQ y3,fEq (.slice none 0 0)]) rfl ty_bu_77 rfl (bJ.cons (has rfl) (cJ (aP)) (bJ.cons (has rfl) (cJ (aP)) bJ.nil)) rfl) fun _=>?_
 refine Mn 2 (fun b2=>ptr b2) (fun b2=>aA b2 77 [fEq (.slice none 0 0),fEq (.slice none 0 0),fEq (.slice none 0 0)]) rfl (bG rfl uD rfl) (fun b2 u1=>?_)
 refine rX (od:=od1 7 [2] true (fun b2 _=>fB) (fun b2 _=>[aA b2 77 [fSl bX y2,fSl bQ y3,fEq (.slice none 0 0)]])) (p:=2) (φs':=[fSl bX y2,fSl bQ y3,fEq (.slice none 0 0)]) rfl (fun _=>rfl) (fun _=>rfl) a2e rfl rfl rfl (has rfl) (has rfl) (aC (aP) (aC (aP) (aC (aI a2e) bD))) (sz rfl) rfl rfl rfl (fun _=>?_)
 revert H;refine B2 fun o3 H Hr3=>?_
 refine aS (ι:=List Ai × Value) (fun i=>o3=i.1) (fun i=>[(3,fEq v3),(9,fSl aE a0),(10,fI (a0.length:Int)),(11,fI x5),(6,fEq (ptr b2))]) (fun i=>[aA b1 77 [fSl bX y1.AQ,fSl bQ y1.AS,fSl bF y1.AP],aA b2 77 [fSl bX y2,fSl bQ y3,fEq i.2],aD v3 77 aE x4,aD i.2 81 bF i.1]) ?_ ?_
 refine Z7 ?_
 refine gM bF 81 ?_
 refine aH [1,3,2,0] (by decide) ?_
 refine Tl (ι:=Nat × Int × List Ai × Value) (fun i=>mT y1 i.1 i.2.1 i.2.2.1=_) (fun i=>i.1) (fun i=>[(3,fEq v3),(9,fSl aE a0),(10,fI (a0.length:Int)),(11,fI x5),(6,fEq (ptr b2)),(23,fSl bF y1.AP),(24,fI (y1.AP.length:Int)),(25,fI i.2.1)]) (fun i=>[aA b1 77 [fSl bX y1.AQ,fSl bQ y1.AS,fSl bF y1.AP],aA b2 77 [fSl bX y2,fSl bQ y3,fEq i.2.2.2],aD v3 77 aE x4,aD i.2.2.2 81 bF i.2.2.1]) (AA,0,[],(.slice none 0 0)) H ?_
 clear H;rintro⟨k2,x10,x11,v7⟩ H
 replace H:mT y1 k2 x10 x11=_:=H
 try dsimp only
 obtain _ | k2:=k2
 rw [mT]at H;cases H
 rw [mT]at H
 refine aF 3 rfl (fun hc_v7=>?_)
 refine Z3 ?_
 refine aJ ?_
 revert H;refine is (fun c2 H=>?_) fun c2 H=>?_
 refine Z3 ?_
 refine aJ ?_
 revert H;refine B2 fun y4 h4 H=>?_
 refine Z2 ?_
 refine Tn (bG rfl sJ rfl) fun b3=>?_
 refine bZ (φs':=[fI y4.At,fSl tI y4.Ab,fI y4.AU]) a2e rfl rfl (has rfl) (has rfl) (aC (aI a2e) (aC (aP) (aC (aI a2e) bD))) (sz rfl) rfl rfl rfl ?_
 revert H;refine B4 fun y5 h5 H=>?_
 refine lT a2e rfl rfl rfl hh (aK.cons hh aK.nil) rfl (cb rfl) (rP y4.Ab y5 h5) rfl ?_
 refine Z1 ?_
 refine dN (φs':=[fI y4.At,fSl tI y5,fI y4.AU]) a2e rfl rfl (has rfl) (has rfl) (aP) (sz rfl) rfl rfl ?_
 refine Z5 ?_
 refine Tn (fN (t:=bF) (xs:=[(⟨y4.At,y5,y4.AU⟩:Ai)]) rfl (et rfl) (cI.cons rfl hh cB cI.nil) rfl rfl rfl) fun b4=>?_
 generalize (Value.slice (some ⟨b4,0,none⟩) _ _)=v8
 refine aF 0 rfl (fun hc_v8=>?_)
 revert H;refine bs fun z1 h6 H=>?_
 refine cO ?_
 refine cL ?_
 refine jE a2e rfl rfl rfl (has rfl) (has rfl) (et rfl) rfl h6 (fun v9=>?_)
 refine aF 0 rfl (fun hc_v9=>?_)
 refine Z1 ?_
 refine eM ?_
 refine dN (φs':=[fSl bX y2,fSl bQ y3,fEq v9]) a2e rfl rfl (has rfl) (has rfl) (aI hc_v9) (sz rfl) rfl rfl ?_
 revert H;refine B4 fun z2 h7 H=>?_
 refine Z3 ?_
 refine aH [3,0,4,1] (by decide) ?_
 exact Tm ((k2,z2,z1,v9)) ⟨H,ls⟩
 refine Z6 ?_
 exact Tm ((x11,v7)) (ij H)
 clear H;intro i hi;obtain⟨x7,v5⟩:=i;subst o3;have H:=Hr3;clear Hr3;try dsimp only at H
 try dsimp only
 refine aF 3 rfl (fun hc_v5=>?_)
 refine Z3 ?_
 refine eM ?_
 refine cF (φ:=fSl bF x7) (v:=v5) [] dC (fun _ h=>nomatch h) ?_
 refine dT ?_
 refine cL ?_
 refine fJ (φs':=[fSl bX y2,fSl bQ y3,fSl bF x7]) (i:=2) rfl rfl ?_
 refine pY 41 (ψ:=dV [fSl bX y2,fSl bQ y3,fEq v5]) rfl (pC (i:=2) (φs:=[fSl bX y2,fSl bQ y3,fEq v5]) (φs':=[fSl bX y2,fSl bQ y3,fSl bF x7]) rfl rfl) ?_
 refine cE ?_
 refine Tn (fN (t:=aE) (xs:=[(⟨y2,y3,x7⟩:AN)]) rfl (et rfl) (cI.cons rfl hh cB cI.nil) rfl rfl rfl) fun b5=>?_
 generalize (Value.slice (some ⟨b5,0,none⟩) _ _)=v10
 refine aF 0 rfl (fun hc_v10=>?_)
 revert H;refine bs fun z3 h8 H=>?_
 refine eM ?_
 refine cL ?_
 refine jE a2e rfl rfl rfl (has rfl) (has rfl) (et rfl) rfl h8 (fun v11=>?_)
 refine aF 0 rfl (fun hc_v11=>?_)
 refine Z4 ?_
 refine aH [0] (by decide) ?_
 exact Tm ((z3,v11)) (ij H)
 exact fk
 kernel_rfl
 clear H;intro i hi;obtain⟨x6,v4⟩:=i;subst o2;have H:=Hr2;clear Hr2;try dsimp only at H
 try dsimp only
 refine aF 0 rfl (fun hc_v4=>?_)
 revert H;refine B1 fun z4 h9 H=>?_
 refine Z3 ?_
 exact Tm ((k1,x6,z4,v4)) ⟨H,ls⟩
 refine Z6 ?_
 exact Tm ((x4,v3)) (ij H)
 clear H;intro i hi;obtain⟨x1,v1⟩:=i;subst o1;have H:=Hr1;clear Hr1;try dsimp only at H
 try dsimp only
 refine aF 0 rfl (fun hc_v1=>?_)
 refine Z5 ?_
 refine cF (φ:=fSl aE x1) (v:=v1) [3,45,2] dC fz ?_
 refine cE ?_
 cases H
 exact To
def pF (a0:Int):Option (Bool):=
 (if a0=4 then
  some true
 else
  if a0=6 then
   some true
  else
   if a0=7 then
    some true
   else
    some (decide (a0=8))).bind fun x1=>
 some x1
theorem aDH  (a0:Int) (r:Bool) (H:pF a0=some r):FnS Tryz.prog 27 [fI a0] [] (aR r) (fun _=>[]):=by
 unfold pF at H
 refine bL Tryz.func27 rfl Tryz.ntmps27 rfl (fun β=>?_)
 revert H;refine B3 fun o1 H Hr1=>?_
 refine aS (ι:=Bool) (fun i=>o1=i) (fun i=>[(2,aR i)]) (fun i=>[]) ?_ ?_
 revert H;refine I4 (fun c1 H=>?_) fun c1 H=>?_
 refine Z12 ?_
 refine Z1 ?_
 exact Tm (true) (ij H)
 revert H;refine I4 (fun c2 H=>?_) fun c2 H=>?_
 refine Z9 ?_
 exact Tm (true) (ij H)
 revert H;refine I4 (fun c3 H=>?_) fun c3 H=>?_
 refine Z5 ?_
 exact Tm (true) (ij H)
 refine Z5 ?_
 exact Tm (decide (a0=8)) (ij H)
 clear H;intro x1 hi;subst o1;have H:=Hr1;clear Hr1;try dsimp only at H
 try dsimp only
 refine Z1 ?_
 cases H
 exact To
def oC (a0:List Int) (a1:Int):Nat->Int->Option ((Unit) ⊕ (Int))
| 0,_=>none
| k+1,x2=>
 if x2<(a0.length:Int)then
  (idx a0 x2).bind fun y1=>
  if a1=y1 then
   (some x2).bind fun r=>some (Sum.inr r)
  else
   (chk (x2+1)).bind fun z1=>
   oC a0 a1 k z1
 else
  some (Sum.inl ())
def kK (AA:Nat) (a0:List Int) (a1:Int):Option (Int):=
 (oC a0 a1 AA 0).bind fun o=>match o with
 | Sum.inr r=>some r
 | Sum.inl _=>
 some (-1)
theorem zO (AA:Nat)  (a0:List Int) (a1:Int) (r:Int) (H:kK AA a0 a1=some r):FnS Tryz.prog 29 [fSl tI a0,fI a1] [] (fI r) (fun _=>[]):=by
 unfold kK at H
 refine bL Tryz.func29 rfl Tryz.ntmps29 rfl (fun β=>?_)
 revert H;refine B3 fun o1 H Hr1=>?_
 refine aS (ι:=Unit) (fun i=>o1=Sum.inl ()) (fun i=>[]) (fun i=>[]) ?_ ?_
 refine Z6 ?_
 refine Tl (ι:=Nat × Int) (fun i=>oC a0 a1 i.1 i.2=_) (fun i=>i.1) (fun i=>[(1,fI a1),(7,fSl tI a0),(8,fI (a0.length:Int)),(9,fI i.2)]) (fun i=>[]) (AA,0) H ?_
 clear H;rintro⟨k1,x2⟩ H
 replace H:oC a0 a1 k1 x2=_:=H
 try dsimp only
 obtain _ | k1:=k1
 rw [oC]at H;cases H
 rw [oC]at H
 refine Z3 ?_
 refine aJ ?_
 revert H;refine is (fun c1 H=>?_) fun c1 H=>?_
 refine Z3 ?_
 refine aJ ?_
 revert H;refine B3 fun y1 h1 H=>?_
 revert H;refine I10 (fun c2 H=>?_) fun c2 H=>?_
 revert H;refine B11 fun r1 H e1=>?_
 cases e1;cases Hr1
 cases H
 exact To
 revert H;refine B5 fun z1 h2 H=>?_
 refine Z3 ?_
 exact Tm ((k1,z1)) ⟨H,ls⟩
 refine Z6 ?_
 exact Tm (()) (ij H)
 clear H;intro i hi;subst o1;have H:=Hr1;clear Hr1;try dsimp only at H
 try dsimp only
 refine Z4 ?_
 cases H
 exact To
def nP (AA:Nat) (a0:List Int) (a1:List Int):Nat->(List Int)->Int->Option (List Int)
| 0,_,_=>none
| k+1,x4,x5=>
 if x5<(a1.length:Int)then
  (idx a1 x5).bind fun y1=>
  (kK AA a0 y1).bind fun y2=>
  (cQ (x4++[y2])).bind fun z1=>
  (chk (x5+1)).bind fun z2=>
  nP AA a0 a1 k z1 z2
 else
  some x4
def vK (AA:Nat) (a0:List Int) (a1:List Int):Option (List Int):=
 (nP AA a0 a1 AA [] 0).bind fun x1=>
 some x1
theorem aKp (AA:Nat)  (a0:List Int) (a1:List Int) (r:List Int) (H:vK AA a0 a1=some r):FnS Tryz.prog 28 [fSl tI a0,fSl tI a1] [] (fSl tI r) (fun _=>[]):=by
 unfold vK at H
 refine bL Tryz.func28 rfl Tryz.ntmps28 rfl (fun β=>?_)
 revert H;refine B6 fun o1 H Hr1=>?_
 refine aS (ι:=List Int × Value) (fun i=>o1=i.1) (fun i=>[(5,fEq i.2)]) (fun i=>[aD i.2 3 tI i.1]) ?_ ?_
 refine Z6 ?_
 refine gM tI 3 ?_
 refine Tl (ι:=Nat × List Int × Int × Value) (fun i=>nP AA a0 a1 i.1 i.2.1 i.2.2.1=_) (fun i=>i.1) (fun i=>[(0,fSl tI a0),(5,fEq i.2.2.2),(8,fSl tI a1),(9,fI (a1.length:Int)),(10,fI i.2.2.1)]) (fun i=>[aD i.2.2.2 3 tI i.2.1]) (AA,[],0,(.slice none 0 0)) H ?_
 clear H;rintro⟨k1,x4,x5,v3⟩ H
 replace H:nP AA a0 a1 k1 x4 x5=_:=H
 try dsimp only
 obtain _ | k1:=k1
 rw [nP]at H;cases H
 rw [nP]at H
 refine aF 0 rfl (fun hc_v3=>?_)
 refine Z3 ?_
 refine aJ ?_
 revert H;refine is (fun c1 H=>?_) fun c1 H=>?_
 refine Z3 ?_
 refine aJ ?_
 revert H;refine B2 fun y1 h1 H=>?_
 revert H;refine B8 fun y2 h2 H=>?_
 refine Tc (zO _ _ _ _ h2) ?_
 refine Tn (fN (t:=tI) (xs:=[y2]) rfl (et rfl) (cI.cons rfl (has rfl) (cJ (aI a2e)) cI.nil) rfl rfl rfl) fun b1=>?_
 generalize (Value.slice (some ⟨b1,0,none⟩) _ _)=v4
 refine aF 0 rfl (fun hc_v4=>?_)
 revert H;refine bs fun z1 h3 H=>?_
 refine jE a2e rfl rfl rfl (has rfl) (has rfl) (et rfl) rfl h3 (fun v5=>?_)
 refine aF 0 rfl (fun hc_v5=>?_)
 revert H;refine B5 fun z2 h4 H=>?_
 refine Z3 ?_
 exact Tm ((k1,z1,z2,v5)) ⟨H,ls⟩
 refine Z6 ?_
 exact Tm ((x4,v3)) (ij H)
 clear H;intro i hi;obtain⟨x1,v1⟩:=i;subst o1;have H:=Hr1;clear Hr1;try dsimp only at H
 try dsimp only
 refine aF 0 rfl (fun hc_v1=>?_)
 refine Z5 ?_
 refine cF (φ:=fSl tI x1) (v:=v1) [5,21,4] dC fz ?_
 refine cE ?_
 cases H
 exact To
open Go.SX Go.SW Go.Dt
def oK (rec_flat_flatExp:AT->(List Int)->Option (AT)) (a0:AT) (a1:List Int):Nat->Int->(List AT)->Option (List AT)
| 0,_,_=>none
| k+1,x5,x6=>
 if x5<(a0.AO.length:Int)then
  (idx a0.AO x5).bind fun y2=>
  (rec_flat_flatExp (⟨y2.Op,y2.N,y2.AO⟩:AT) a1).bind fun y3=>
  (cQ (x6++[y3])).bind fun z1=>
  (chk (x5+1)).bind fun z2=>
  oK rec_flat_flatExp a0 a1 k z2 z1
 else
  some x6
def mB:Nat->AT->(List Int)->Option (AT)
| 0,_,_=>none
| AA+1,a0,a1=>
 (if a0.Op=2 then
  (kK AA a1 a0.N).bind fun y1=>
  some y1
 else
  some a0.N).bind fun x1=>
 (oK (mB AA) a0 a1 AA 0 []).bind fun x2=>
 some (⟨a0.Op,x1,x2⟩:AT)
theorem aIE:∀ (AA:Nat),(∀  (a0:AT) (a1:List Int) (r:AT) (H:mB AA a0 a1=some r),FnS Tryz.prog 30 [fSt aN a0,fSl tI a1] [] (fSt aN r) (fun _=>[])):=by
 intro AA
 induction AA with
 | zero=>exact fun a0 a1 r H=>(by rw [mB]at H;cases H)
 | succ AA ih=>
 have ih_flat_flatExp:=@ih
 refine ?_
 intro a0 a1 r H
 rw [mB]at H
 refine bL Tryz.func30 rfl Tryz.ntmps30 rfl (fun β=>?_)
 refine Z1 ?_
 refine Tn (cC rfl hh cB) fun b1=>?_
 refine Tn (bG rfl hO rfl) fun b2=>?_
 refine Z6 ?_
 refine Yy (fY (ψs:=[fI a0.Op,fI a0.N,fEq (.slice none 0 0)]) rfl aFC rfl (bJ.cons (has rfl) (cJ (aI a2e)) (bJ.cons (has rfl) (cJ (aI a2e)) bJ.nil)) rfl) ?_
 refine Tn (bG rfl hO rfl) fun b3=>?_
 refine bZ (φs':=[fI a0.Op,fI a0.N,fEq (.slice none 0 0)]) a2e rfl rfl (has rfl) (has rfl) (aC (aI a2e) (aC (aI a2e) (aC (aI a2e) bD))) (sz rfl) rfl rfl rfl ?_
 revert H;refine B1 fun o1 H Hr1=>?_
 refine aS (ι:=Int) (fun i=>o1=i) (fun i=>[(1,fSl tI a1),(2,fEq (ptr b1)),(4,fEq (ptr b2)),(5,fEq (ptr b3))]) (fun i=>[aA b3 71 [fI a0.Op,fI i,fEq (.slice none 0 0)],aA b2 71 [fI 0,fI 0,fEq (.slice none 0 0)],aA b1 71 [fI a0.Op,fI a0.N,dK a0.AO]]) ?_ ?_
 revert H;refine I5 (fun c1 H=>?_) fun c1 H=>?_
 revert H;refine B5 fun y1 h1 H=>?_
 refine Tc (zO _ _ _ _ h1) ?_
 refine Z1 ?_
 refine dN (φs':=[fI a0.Op,fI y1,fEq (.slice none 0 0)]) a2e rfl rfl (has rfl) (has rfl) (aI a2e) (sz rfl) rfl rfl ?_
 refine Z1 ?_
 exact Tm (y1) (ij H)
 refine Z3 ?_
 exact Tm (a0.N) (ij H)
 clear H;intro x1 hi;subst o1;have H:=Hr1;clear Hr1;try dsimp only at H
 try dsimp only
 revert H;refine bs fun o2 H Hr2=>?_
 refine aS (ι:=List AT × Value) (fun i=>o2=i.1) (fun i=>[(4,fEq (ptr b2)),(5,fEq (ptr b3))]) (fun i=>[aA b3 71 [fI a0.Op,fI x1,fEq i.2],aA b2 71 [fI 0,fI 0,fEq (.slice none 0 0)],aA b1 71 [fI a0.Op,fI a0.N,dK a0.AO],aD i.2 71 aN i.1]) ?_ ?_
 refine Z2 ?_
 refine Yo 2 rfl (eQ rfl hh (sc rfl) rfl (jI iB)) ?_
 refine Z4 ?_
 refine gM aN 71 ?_
 refine aH [1,2,3,0] (by decide) ?_
 refine Tl (ι:=Nat × Int × List AT × Value) (fun i=>oK (mB AA) a0 a1 i.1 i.2.1 i.2.2.1=_) (fun i=>i.1) (fun i=>[(1,fSl tI a1),(4,fEq (ptr b2)),(5,fEq (ptr b3)),(22,fSl aN a0.AO),(23,fI (a0.AO.length:Int)),(24,fI i.2.1)]) (fun i=>[aA b3 71 [fI a0.Op,fI x1,fEq i.2.2.2],aA b2 71 [fI 0,fI 0,fEq (.slice none 0 0)],aA b1 71 [fI a0.Op,fI a0.N,dK a0.AO],aD i.2.2.2 71 aN i.2.2.1]) (AA,0,[],(.slice none 0 0)) H ?_
 clear H;rintro⟨k1,x5,x6,v3⟩ H
 replace H:oK (mB AA) a0 a1 k1 x5 x6=_:=H
 try dsimp only
 obtain _ | k1:=k1
 rw [oK]at H;cases H
 rw [oK]at H
 refine aF 3 rfl (fun hc_v3=>?_)
 refine Z3 ?_
 refine aJ ?_
 revert H;refine is (fun c2 H=>?_) fun c2 H=>?_
 refine Z3 ?_
 refine aJ ?_
 revert H;refine B2 fun y2 h2 H=>?_
 refine Z2 ?_
 refine Tn (bG rfl hO rfl) fun b4=>?_
 refine bZ (φs':=[fI y2.Op,fI y2.N,dK y2.AO]) a2e rfl rfl (has rfl) (has rfl) (aC (aI a2e) (aC (aI a2e) (aC (kP) bD))) (sz rfl) rfl rfl rfl ?_
 revert H;refine B1 fun y3 h3 H=>?_
 apply bW (ods:=[_,_,_,_,_,_]) 6 0 5 bV rfl rfl rfl
 refine ND ?_
 refine M4 ?_
 intros
 refine Nc (ih_flat_flatExp _ _ _ h3) fun _=>?_
 refine Mf (φ:=fSl aN [y3]) (fN (t:=aN) (xs:=[y3]) rfl (et rfl) (cI.cons rfl (has rfl) cB cI.nil) rfl rfl rfl) (fun b=>dC) fun _=>?_
 revert H;refine B1 fun z1 h4 H=>?_
 refine dD ?_
 refine rG (ys:=[y3]) a2e rfl rfl rfl (has rfl) (has rfl) (et rfl) rfl h4 (fun v5=>?_)
 refine aF 0 rfl (fun hc_v5=>?_)
 refine Z1 ?_
 refine dT ?_
 refine dN (φs':=[fI a0.Op,fI x1,fEq v5]) a2e rfl rfl (has rfl) (has rfl) (aI hc_v5) (sz rfl) rfl rfl ?_
 revert H;refine B4 fun z2 h5 H=>?_
 refine Z3 ?_
 refine aH [0,3,4,1] (by decide) ?_
 exact Tm ((k1,z2,z1,v5)) ⟨H,ls⟩
 exact fk
 kernel_rfl
 refine Z6 ?_
 exact Tm ((x6,v3)) (ij H)
 clear H;intro i hi;obtain⟨x2,v1⟩:=i;subst o2;have H:=Hr2;clear Hr2;try dsimp only at H
 try dsimp only
 refine aF 3 rfl (fun hc_v1=>?_)
 refine Z2 ?_
 refine cL ?_
 refine bZ (φs':=[fI a0.Op,fI x1,fEq v1]) a2e rfl rfl (has rfl) (has rfl) (aC (aI a2e) (aC (aI a2e) (aC (aI hc_v1) bD))) (sz rfl) rfl rfl rfl ?_
 refine Z2 ?_
 refine eM ?_
 refine cF (φ:=fSl aN x2) (v:=v1) [] dC (fun _ h=>nomatch h) ?_
 refine dT ?_
 refine cL ?_
 refine fJ (φs':=[fI a0.Op,fI x1,fSl aN x2]) (i:=2) rfl rfl ?_
 refine dT ?_
 refine cL ?_
 refine fJ (φs':=[fI a0.Op,fI x1,fSl aN x2]) (i:=2) rfl rfl ?_
 refine pY 37 (ψ:=dV [fI a0.Op,fI x1,fEq v1]) rfl (pC (i:=2) (φs:=[fI a0.Op,fI x1,fEq v1]) (φs':=[fI a0.Op,fI x1,fSl aN x2]) rfl rfl) ?_
 refine cE ?_
 cases H
 refine aH [0] (by decide) ?_
 exact T_outCS rfl (ag rfl) rfl (bS rfl) (qS (aO.cons Ent.rfl (aO.cons Ent.rfl (aO.cons (yG .rfl) aO.nil)))) rfl
def lN (a0:Int) (a1:Int):Nat->(List Int)->Int->Option (List Int)
| 0,_,_=>none
| k+1,x4,x5=>
 if x5<a1 then
  (chk (a0+x5)).bind fun z1=>
  (cQ (x4++[z1])).bind fun z2=>
  (chk (x5+1)).bind fun z3=>
  lN a0 a1 k z2 z3
 else
  some x4
def pP (AA:Nat) (a0:Int) (a1:Int):Option (List Int):=
 (lN a0 a1 AA [] 0).bind fun x1=>
 some x1
theorem aAu (AA:Nat)  (a0:Int) (a1:Int) (r:List Int) (H:pP AA a0 a1=some r):FnS Tryz.prog 31 [fI a0,fI a1] [] (fSl tI r) (fun _=>[]):=by
 unfold pP at H
 refine bL Tryz.func31 rfl Tryz.ntmps31 rfl (fun β=>?_)
 revert H;refine B6 fun o1 H Hr1=>?_
 refine aS (ι:=List Int × Value) (fun i=>o1=i.1) (fun i=>[(5,fEq i.2)]) (fun i=>[aD i.2 3 tI i.1]) ?_ ?_
 refine Z5 ?_
 refine gM tI 3 ?_
 refine Tl (ι:=Nat × List Int × Int × Value) (fun i=>lN a0 a1 i.1 i.2.1 i.2.2.1=_) (fun i=>i.1) (fun i=>[(0,fI a0),(5,fEq i.2.2.2),(7,fI a1),(8,fI i.2.2.1)]) (fun i=>[aD i.2.2.2 3 tI i.2.1]) (AA,[],0,(.slice none 0 0)) H ?_
 clear H;rintro⟨k1,x4,x5,v3⟩ H
 replace H:lN a0 a1 k1 x4 x5=_:=H
 try dsimp only
 obtain _ | k1:=k1
 rw [lN]at H;cases H
 rw [lN]at H
 refine aF 0 rfl (fun hc_v3=>?_)
 refine Z3 ?_
 refine aJ ?_
 revert H;refine is (fun c1 H=>?_) fun c1 H=>?_
 refine Z3 ?_
 refine aJ ?_
 revert H;refine B9 fun z1 h1 H=>?_
 refine Z1 ?_
 refine Tn (fN (t:=tI) (xs:=[z1]) rfl (et rfl) (cI.cons rfl (has rfl) (cJ (aI a2e)) cI.nil) rfl rfl rfl) fun b1=>?_
 generalize (Value.slice (some ⟨b1,0,none⟩) _ _)=v4
 refine aF 0 rfl (fun hc_v4=>?_)
 revert H;refine bs fun z2 h2 H=>?_
 refine jE a2e rfl rfl rfl (has rfl) (has rfl) (et rfl) rfl h2 (fun v5=>?_)
 refine aF 0 rfl (fun hc_v5=>?_)
 revert H;refine B5 fun z3 h3 H=>?_
 refine Z3 ?_
 exact Tm ((k1,z2,z3,v5)) ⟨H,ls⟩
 refine Z6 ?_
 exact Tm ((x4,v3)) (ij H)
 clear H;intro i hi;obtain⟨x1,v1⟩:=i;subst o1;have H:=Hr1;clear Hr1;try dsimp only at H
 try dsimp only
 refine aF 0 rfl (fun hc_v1=>?_)
 refine Z5 ?_
 refine cF (φ:=fSl tI x1) (v:=v1) [5,18,4] dC fz ?_
 refine cE ?_
 cases H
 exact To
def lL (a0:List Int) (a1:List Int):Option (List Int):=
 (fC a0).bind fun y1=>
 (cQ (y1++a1)).bind fun z1=>
 some z1
theorem uE  (a0:List Int) (a1:List Int) (r:List Int) (H:lL a0 a1=some r):FnS Tryz.prog 32 [fSl tI a0,fSl tI a1] [] (fSl tI r) (fun _=>[]):=by
 unfold lL at H
 refine bL Tryz.func32 rfl Tryz.ntmps32 rfl (fun β=>?_)
 revert H;refine B5 fun y1 h1 H=>?_
 refine T_callO a2e rfl rfl rfl (has rfl) (aK.cons (has rfl) aK.nil) rfl (cb rfl) (aHm a0 y1 h1) (Δi:=[]) rfl (fun v1=>?_)
 dsimp only [List.append,_root_.List.cons_append,_root_.List.nil_append]
 refine aF 0 rfl (fun hc_v1=>?_)
 revert H;refine B1 fun z1 h2 H=>?_
 refine rG (ys:=a1) a2e rfl rfl rfl (has rfl) (has rfl) (et rfl) rfl h2 (fun v2=>?_)
 refine aF 0 rfl (fun hc_v2=>?_)
 refine Z3 ?_
 refine cF (φ:=fSl tI z1) (v:=v2) [4,8] dC fz ?_
 refine cE ?_
 cases H
 exact To
def kH (a0:AN) (a1:Ai):Nat->Int->Int->Option ((Int) ⊕ (Int))
| 0,_,_=>none
| k+1,x4,x5=>
 if x5<(a1.Ab.length:Int)then
  (idx a1.Ab x5).bind fun y1=>
  if y1<0 then
   (some (-1)).bind fun r=>some (Sum.inr r)
  else
   if (a0.AQ.length:Int)<=y1 then
    (some (-1)).bind fun r=>some (Sum.inr r)
   else
    (idx a0.AQ y1).bind fun y2=>
    if y2.Ap<0 then
     (some (-1)).bind fun r=>some (Sum.inr r)
    else
     (idx a0.AQ y1).bind fun y3=>
     if 3<y3.Ap then
      (some (-1)).bind fun r=>some (Sum.inr r)
     else
      (idx a0.AQ y1).bind fun y4=>
      (chk (x4+y4.Ap)).bind fun z1=>
      (chk (x5+1)).bind fun z2=>
      kH a0 a1 k z1 z2
 else
  some (Sum.inl x4)
def mM (AA:Nat) (a0:AN) (a1:Ai):Option (Int):=
 (kH a0 a1 AA 0 0).bind fun o=>match o with
 | Sum.inr r=>some r
 | Sum.inl x1=>
 some x1
theorem aFJ (AA:Nat)  (a0:AN) (a1:Ai) (r:Int) (H:mM AA a0 a1=some r):FnS Tryz.prog 33 [fSt aE a0,fSt bF a1] [] (fI r) (fun _=>[]):=by
 unfold mM at H
 refine bL Tryz.func33 rfl Tryz.ntmps33 rfl (fun β=>?_)
 refine Z1 ?_
 refine Tn (cC rfl hh cB) fun b1=>?_
 refine Tn (cC rfl hh cB) fun b2=>?_
 revert H;refine B5 fun o1 H Hr1=>?_
 refine aS (ι:=Int) (fun i=>o1=Sum.inl i) (fun i=>[(5,fI i)]) (fun i=>[aA b2 81 [fI a1.At,fSl tI a1.Ab,fI a1.AU],aA b1 77 [fSl bX a0.AQ,fSl bQ a0.AS,fSl bF a0.AP]]) ?_ ?_
 refine Z7 ?_
 refine Tl (ι:=Nat × Int × Int) (fun i=>kH a0 a1 i.1 i.2.1 i.2.2=_) (fun i=>i.1) (fun i=>[(2,fEq (ptr b1)),(5,fI i.2.1),(9,fSl tI a1.Ab),(10,fI (a1.Ab.length:Int)),(11,fI i.2.2)]) (fun i=>[aA b2 81 [fI a1.At,fSl tI a1.Ab,fI a1.AU],aA b1 77 [fSl bX a0.AQ,fSl bQ a0.AS,fSl bF a0.AP]]) (AA,0,0) H ?_
 clear H;rintro⟨k1,x4,x5⟩ H
 replace H:kH a0 a1 k1 x4 x5=_:=H
 try dsimp only
 obtain _ | k1:=k1
 rw [kH]at H;cases H
 rw [kH]at H
 refine Z3 ?_
 refine aJ ?_
 revert H;refine is (fun c1 H=>?_) fun c1 H=>?_
 refine Z3 ?_
 refine aJ ?_
 revert H;refine B2 fun y1 h1 H=>?_
 refine Z4 ?_
 refine aJ ?_
 revert H;refine I4 (fun c2 H=>?_) fun c2 H=>?_
 refine Z12 ?_
 refine Z12 ?_
 revert H;refine B11 fun r1 H e1=>?_
 cases e1;cases Hr1
 cases H
 refine aH [] (by decide) ?_
 exact To
 revert H;refine I7 (fun c3 H=>?_) fun c3 H=>?_
 refine Z12 ?_
 refine Z12 ?_
 revert H;refine B4 fun r2 H e2=>?_
 cases e2;cases Hr1
 cases H
 refine aH [] (by decide) ?_
 exact To
 revert H;refine B3 fun y2 h2 H=>?_
 revert H;refine I6 (fun c4 H=>?_) fun c4 H=>?_
 refine Z12 ?_
 revert H;refine B7 fun r3 H e3=>?_
 cases e3;cases Hr1
 cases H
 refine aH [] (by decide) ?_
 exact To
 revert H;refine B3 fun y3 h3 H=>?_
 revert H;refine I6 (fun c5 H=>?_) fun c5 H=>?_
 revert H;refine B10 fun r4 H e4=>?_
 cases e4;cases Hr1
 cases H
 refine aH [] (by decide) ?_
 exact To
 revert H;refine B8 fun y4 h4 H=>?_
 revert H;refine B3 fun z1 h5 H=>?_
 revert H;refine B6 fun z2 h6 H=>?_
 refine Z3 ?_
 exact Tm ((k1,z1,z2)) ⟨H,ls⟩
 refine Z6 ?_
 exact Tm (x4) (ij H)
 clear H;intro x1 hi;subst o1;have H:=Hr1;clear Hr1;try dsimp only at H
 try dsimp only
 refine Z5 ?_
 cases H
 refine aH [] (by decide) ?_
 exact To
open Go.SX Go.SW Go.Dt
def nB (AA:Nat) (a1:List Int) (y1:AV):Nat->Int->(List AT)->Option (List AT)
| 0,_,_=>none
| k+1,x8,x9=>
 if x8<(y1.AW.length:Int)then
  (idx y1.AW x8).bind fun y8=>
  (mB AA (⟨y8.Op,y8.N,y8.AO⟩:AT) a1).bind fun y9=>
  (cQ (x9++[y9])).bind fun z1=>
  (chk (x8+1)).bind fun z2=>
  nB AA a1 y1 k z2 z1
 else
  some x9
def nR (AA:Nat) (rec_flat_Flat_1:Int->(List Int)->AI->(aG Int (List Int))->AE->(List Int)->Option (AE)) (a0:Int) (w0:AI) (w1:aG Int (List Int)) (w3:List Int) (y11:AN) (y13:List Int) (y14:List Int):Nat->Int->(List ByteArray)->(List Int)->(List Ah)->(List AN)->Int->Option (List ByteArray × List Int × List Ah × List AN × Int)
| 0,_,_,_,_,_,_=>none
| k+1,x27,x28,x29,x30,x31,x32=>
 if x27<(y11.AP.length:Int)then
  (idx y11.AP x27).bind fun y15=>
  (idx w3 a0).bind fun y16=>
  (chk (y16+(y13.length:Int))).bind fun z4=>
  (mM AA (⟨y11.AQ,y11.AS,y11.AP⟩:AN) (⟨y15.At,y15.Ab,y15.AU⟩:Ai)).bind fun y17=>
  (pP AA z4 y17).bind fun y18=>
  (lL y14 y18).bind fun y19=>
  (rec_flat_Flat_1 y15.AU y19 w0 w1 (⟨x28,x29,x30,x31,x32⟩:AE) w3).bind fun y20=>
  (chk (x27+1)).bind fun z5=>
  nR AA rec_flat_Flat_1 a0 w0 w1 w3 y11 y13 y14 k z5 y20.AH y20.AM y20.AD y20.AF y20.AG
 else
  some (x28,x29,x30,x31,x32)
def oV (rec_flat_Flat_1:Int->(List Int)->AI->(aG Int (List Int))->AE->(List Int)->Option (AE)) (w0:AI) (w1:aG Int (List Int)) (w3:List Int) (y11:AN) (y14:List Int):Nat->Int->(List ByteArray)->(List Int)->(List Ah)->(List AN)->Int->Option (List ByteArray × List Int × List Ah × List AN × Int)
| 0,_,_,_,_,_,_=>none
| k+1,x44,x45,x46,x47,x48,x49=>
 if x44<(y11.AS.length:Int)then
  (idx y11.AS x44).bind fun y21=>
  (rec_flat_Flat_1 y21.AU y14 w0 w1 (⟨x45,x46,x47,x48,x49⟩:AE) w3).bind fun y22=>
  (chk (x44+1)).bind fun z6=>
  oV rec_flat_Flat_1 w0 w1 w3 y11 y14 k z6 y22.AH y22.AM y22.AD y22.AF y22.AG
 else
  some (x45,x46,x47,x48,x49)
def mP (rec_flat_Flat_1:Int->(List Int)->AI->(aG Int (List Int))->AE->(List Int)->Option (AE)) (w0:AI) (w1:aG Int (List Int)) (w3:List Int) (y1:AV) (x10:List Int):Nat->Int->(List ByteArray)->(List Int)->(List Ah)->(List AN)->Int->Option (AE)
| 0,_,_,_,_,_,_=>none
| k+1,x56,x57,x58,x59,x60,x61=>
 if x56<(y1.AO.length:Int)then
  (idx y1.AO x56).bind fun y24=>
  (rec_flat_Flat_1 y24 x10 w0 w1 (⟨x57,x58,x59,x60,x61⟩:AE) w3).bind fun y25=>
  (chk (x56+1)).bind fun z7=>
  mP rec_flat_Flat_1 w0 w1 w3 y1 x10 k z7 y25.AH y25.AM y25.AD y25.AF y25.AG
 else
  some (⟨x57,x58,x59,x60,x61⟩:AE)
def eW:Nat->Int->(List Int)->AI->(aG Int (List Int))->AE->(List Int)->Option (AE)
| 0,_,_,_,_,_,_=>none
| AA+1,a0,a1,w0,w1,w2,w3=>
 (idx w0.AD a0).bind fun y1=>
 (fC y1.AO).bind fun y2=>
 ((pF y1.Op).bind fun y3=>
 bif y3 then
  (vK AA a1 ((w1.get a0).getD [])).bind fun y4=>
  some y4
 else
  some []).bind fun x1=>
 ((if y1.Op=6 then
  some (decide (y1.Op=6))
 else
  some (decide (y1.Op=8))).bind fun x4=>
 bif x4 then
  (fC ((w1.get a0).getD [])).bind fun y5=>
  (kK AA y5 y1.N).bind fun y6=>
  some (y5,y6)
 else
  if y1.Op=2 then
   (kK AA a1 y1.N).bind fun y7=>
   some (a1,y7)
  else
   some (a1,y1.N)).bind fun (x2,x3)=>
 (nB AA a1 y1 AA 0 []).bind fun x5=>
 (idx w2.AD a0).bind fun y10=>
 (if y1.Op=4 then
  (idx w0.AF y1.N).bind fun y11=>
  (idx w3 a0).bind fun y12=>
  (chk ((y11.AQ.length:Int)+(y11.AS.length:Int))).bind fun z3=>
  (pP AA y12 z3).bind fun y13=>
  (lL ((w1.get a0).getD []) y13).bind fun y14=>
  (nR AA (eW AA) a0 w0 w1 w3 y11 y13 y14 AA 0 w2.AH w2.AM (w2.AD.set a0.toNat (⟨y1.Op,x3,x5,y2,x1⟩:Ah)) w2.AF w2.AG).bind fun (x16,x17,x18,x19,x20)=>
  (oV (eW AA) w0 w1 w3 y11 y14 AA 0 x16 x17 x18 x19 x20).bind fun (x33,x34,x35,x36,x37)=>
  (lL a1 y13).bind fun y23=>
  some (y23,x33,x34,x35,x36,x37)
 else
  some (x2,w2.AH,w2.AM,w2.AD.set a0.toNat (⟨y1.Op,x3,x5,y2,x1⟩:Ah),w2.AF,w2.AG)).bind fun (x10,x11,x12,x13,x14,x15)=>
 mP (eW AA) w0 w1 w3 y1 x10 AA 0 x11 x12 x13 x14 x15
theorem aKF:∀ (AA:Nat),(∀ (q2:Nat) (q4:Nat) (a0:Int) (a1:List Int) (w0:AI) (w1:aG Int (List Int)) (w2:AE) (w3:List Int) (r:AE) (H:eW AA a0 a1 w0 w1 w2 w3=some r),FnS Tryz.prog 26 [fI a0,fSl tI a1,aB cK w0,aB (dY bO (fun y=>fSl tI y)) w1,fEq (.pointer (some ⟨q2,0,none⟩)),aB (tSl tI) w3,fEq (.pointer (some ⟨q4,0,none⟩))] [aAk q2 w2,aA q4 63 [bU 26 [aB cK w0,aB (dY bO (fun y=>fSl tI y)) w1,fEq (.pointer (some ⟨q2,0,none⟩)),aB (tSl tI) w3,fEq (.pointer (some ⟨q4,0,none⟩))]]] (cV []) (fun _=>[aAk q2 r,aA q4 63 [bU 26 [aB cK w0,aB (dY bO (fun y=>fSl tI y)) w1,fEq (.pointer (some ⟨q2,0,none⟩)),aB (tSl tI) w3,fEq (.pointer (some ⟨q4,0,none⟩))]]])):=by
 intro AA
 induction AA with
 | zero=>exact fun q2 q4 a0 a1 w0 w1 w2 w3 r H=>(by rw [eW]at H;cases H)
 | succ AA ih=>
 have ih_flat_Flat_1:=@ih
 refine ?_
 intro q2 q4 a0 a1 w0 w1 w2 w3 r H
 rw [eW]at H
 refine bL Tryz.func26 rfl Tryz.ntmps26 rfl (fun β=>?_)
 refine aAj (fun v1=>?_)
 refine aF 1 rfl (fun hc_v1=>?_)
 revert H;refine B4 fun y1 h1 H=>?_
 refine Z2 ?_
 refine Tn (bG rfl sI rfl) fun b1=>?_
 refine bZ (φs':=[fI y1.Op,fI y1.N,fSl aN y1.AW,fSl tI y1.AO]) a2e rfl rfl (has rfl) (has rfl) (aC (aI a2e) (aC (aI a2e) (aC (aP) (aC (aP) bD)))) (sz rfl) rfl rfl rfl ?_
 refine Z1 ?_
 refine aJ ?_
 revert H;refine bs fun y2 h2 H=>?_
 apply bW (ods:=[_,_,_,_,_,_,_,_,_,_]) 10 1 5 bV rfl rfl rfl
 refine ND ?_
 refine M6 ?_
 intros
 refine vH (od:=odC [] true (fSl tI y2) []) (Φ:=fSl tI y2) rfl (fun _=>rfl) a2e rfl rfl (has rfl) (aK.cons (has rfl) aK.nil) rfl (cb rfl) (rP y1.AO y2 h2) (fun _=>?_)
 refine My (fY (ψs:=[fI y1.Op,fI y1.N,fEq (.slice none 0 0),fSl tI y2,fEq (.slice none 0 0)]) rfl ty_bu_54 rfl (bJ.cons (has rfl) (cJ (aI a2e)) (bJ.cons (has rfl) (cJ (aI a2e)) (bJ.cons (has rfl) (cJ (aP)) bJ.nil))) rfl) fun _=>?_
 refine Mn 4 (fun b2=>ptr b2) (fun b2=>aA b2 54 [fI 0,fI 0,fEq (.slice none 0 0),fEq (.slice none 0 0),fEq (.slice none 0 0)]) rfl (bG rfl zD rfl) (fun b2 u1=>?_)
 refine rX (od:=od1 8 [4] true (fun b2 _=>fB) (fun b2 _=>[aA b2 54 [fI y1.Op,fI y1.N,fEq (.slice none 0 0),fSl tI y2,fEq (.slice none 0 0)]])) (p:=4) (φs':=[fI y1.Op,fI y1.N,fEq (.slice none 0 0),fSl tI y2,fEq (.slice none 0 0)]) rfl (fun _=>rfl) (fun _=>rfl) a2e rfl rfl rfl (has rfl) (has rfl) (aC (aI a2e) (aC (aI a2e) (aC (aI a2e) (aC (aP) (aC (aI a2e) bD))))) (sz rfl) rfl rfl rfl (fun _=>?_)
 revert H;refine B6 fun o1 H Hr1=>?_
 refine aS (ι:=List Int) (fun i=>o1=i) (fun i=>[(0,fI a0),(1,fSl tI a1),(2,aB cK w0),(3,aB (dY bO (fun y=>fSl tI y)) w1),(4,fEq (ptr q2)),(5,aB (tSl tI) w3),(6,fEq (ptr q4)),(9,fEq (ptr b1)),(10,fEq (ptr b2)),(11,fSl tI a1)]) (fun i=>[aA b2 54 [fI y1.Op,fI y1.N,fEq (.slice none 0 0),fSl tI y2,fSl tI i],aA b1 65 [fI y1.Op,fI y1.N,fSl aN y1.AW,fSl tI y1.AO],aA q2 30 [fSl aL w2.AH,fSl tI w2.AM,fEq v1,fSl aE w2.AF,fI w2.AG],aA q4 63 [bU 26 [aB cK w0,aB (dY bO (fun y=>fSl tI y)) w1,fEq (ptr q2),aB (tSl tI) w3,fEq (ptr q4)]],aD v1 54 bH w2.AD]) ?_ ?_
 revert H;refine B3 fun y3 h3 H=>?_
 refine Tc (aDH _ _ h3) ?_
 refine Z1 ?_
 revert H;refine cs (fun c1 H=>?_) fun c1 H=>?_
 refine Z5 ?_
 refine Yy (uJ (zα:=[]) (k:=a0) rfl hh hh rfl qU cW) ?_
 revert H;refine bs fun y4 h4 H=>?_
 refine Tc (aKp _ _ _ _ h4) ?_
 refine Z1 ?_
 refine dD ?_
 refine dN (φs':=[fI y1.Op,fI y1.N,fEq (.slice none 0 0),fSl tI y2,fSl tI y4]) a2e rfl rfl (has rfl) (has rfl) (aP) (sz rfl) rfl rfl ?_
 refine Z1 ?_
 refine aH [0,1,2,4,3] (by decide) ?_
 exact Tm (y4) (ij H)
 refine Z3 ?_
 refine dD ?_
 refine T_blkE (ψs:=[fI y1.Op,fI y1.N,fEq (.slice none 0 0),fSl tI y2,fSl tI []]) (aO.cons Ent.rfl (aO.cons Ent.rfl (aO.cons Ent.rfl (aO.cons Ent.rfl (aO.cons cW aO.nil))))) ?_
 refine aH [0,1,2,4,3] (by decide) ?_
 exact Tm ([]) (ij H)
 clear H;intro x1 hi;subst o1;have H:=Hr1;clear Hr1;try dsimp only at H
 try dsimp only
 revert H;refine bs fun o2 H Hr2=>?_
 refine aS (ι:=List Int × Int) (fun i=>o2=(i.1,i.2)) (fun i=>[(0,fI a0),(1,fSl tI a1),(2,aB cK w0),(3,aB (dY bO (fun y=>fSl tI y)) w1),(4,fEq (ptr q2)),(5,aB (tSl tI) w3),(6,fEq (ptr q4)),(9,fEq (ptr b1)),(10,fEq (ptr b2)),(11,fSl tI i.1)]) (fun i=>[aA b2 54 [fI y1.Op,fI i.2,fEq (.slice none 0 0),fSl tI y2,fSl tI x1],aA b1 65 [fI y1.Op,fI y1.N,fSl aN y1.AW,fSl tI y1.AO],aA q2 30 [fSl aL w2.AH,fSl tI w2.AM,fEq v1,fSl aE w2.AF,fI w2.AG],aA q4 63 [bU 26 [aB cK w0,aB (dY bO (fun y=>fSl tI y)) w1,fEq (ptr q2),aB (tSl tI) w3,fEq (ptr q4)]],aD v1 54 bH w2.AD]) ?_ ?_
 revert H;refine B5 fun o3 H Hr3=>?_
 refine aS (ι:=Bool) (fun i=>o3=i) (fun i=>[(0,fI a0),(1,fSl tI a1),(2,aB cK w0),(3,aB (dY bO (fun y=>fSl tI y)) w1),(4,fEq (ptr q2)),(5,aB (tSl tI) w3),(6,fEq (ptr q4)),(9,fEq (ptr b1)),(10,fEq (ptr b2)),(11,fSl tI a1),(47,fI y1.Op),(48,aR i)]) (fun i=>[aA b2 54 [fI y1.Op,fI y1.N,fEq (.slice none 0 0),fSl tI y2,fSl tI x1],aA b1 65 [fI y1.Op,fI y1.N,fSl aN y1.AW,fSl tI y1.AO],aA q2 30 [fSl aL w2.AH,fSl tI w2.AM,fEq v1,fSl aE w2.AF,fI w2.AG],aA q4 63 [bU 26 [aB cK w0,aB (dY bO (fun y=>fSl tI y)) w1,fEq (ptr q2),aB (tSl tI) w3,fEq (ptr q4)]],aD v1 54 bH w2.AD]) ?_ ?_
 revert H;refine I4 (fun c2 H=>?_) fun c2 H=>?_
 refine Z3 ?_
 exact Tm (decide (y1.Op=6)) (ij H)
 refine Z5 ?_
 exact Tm (decide (y1.Op=8)) (ij H)
 clear H;intro x4 hi;subst o3;have H:=Hr3;clear Hr3;try dsimp only at H
 try dsimp only
 revert H;refine cs (fun c3 H=>?_) fun c3 H=>?_
 refine Z4 ?_
 refine Yy (uJ (zα:=[]) (k:=a0) rfl hh hh rfl qU cW) ?_
 revert H;refine bs fun y5 h5 H=>?_
 refine lT a2e rfl rfl rfl hh (aK.cons hh aK.nil) rfl (cb rfl) (rP ((w1.get a0).getD []) y5 h5) rfl ?_
 revert H;refine B6 fun y6 h6 H=>?_
 refine Tc (zO _ _ _ _ h6) ?_
 refine Z1 ?_
 refine dN (φs':=[fI y1.Op,fI y6,fEq (.slice none 0 0),fSl tI y2,fSl tI x1]) a2e rfl rfl (has rfl) (has rfl) (aI a2e) (sz rfl) rfl rfl ?_
 refine Z3 ?_
 exact Tm ((y5,y6)) (ij H)
 revert H;refine I5 (fun c4 H=>?_) fun c4 H=>?_
 revert H;refine B5 fun y7 h7 H=>?_
 refine Tc (zO _ _ _ _ h7) ?_
 refine Z1 ?_
 refine dN (φs':=[fI y1.Op,fI y7,fEq (.slice none 0 0),fSl tI y2,fSl tI x1]) a2e rfl rfl (has rfl) (has rfl) (aI a2e) (sz rfl) rfl rfl ?_
 refine Z3 ?_
 exact Tm ((a1,y7)) (ij H)
 refine Z4 ?_
 exact Tm ((a1,y1.N)) (ij H)
 clear H;intro i hi;obtain⟨x2,x3⟩:=i;subst o2;have H:=Hr2;clear Hr2;try dsimp only at H
 try dsimp only
 revert H;refine bs fun o4 H Hr4=>?_
 refine aS (ι:=List AT × Value) (fun i=>o4=i.1) (fun i=>[(0,fI a0),(1,fSl tI a1),(2,aB cK w0),(3,aB (dY bO (fun y=>fSl tI y)) w1),(4,fEq (ptr q2)),(5,aB (tSl tI) w3),(6,fEq (ptr q4)),(9,fEq (ptr b1)),(10,fEq (ptr b2)),(11,fSl tI x2)]) (fun i=>[aA b2 54 [fI y1.Op,fI x3,fEq i.2,fSl tI y2,fSl tI x1],aA b1 65 [fI y1.Op,fI y1.N,fSl aN y1.AW,fSl tI y1.AO],aA q2 30 [fSl aL w2.AH,fSl tI w2.AM,fEq v1,fSl aE w2.AF,fI w2.AG],aA q4 63 [bU 26 [aB cK w0,aB (dY bO (fun y=>fSl tI y)) w1,fEq (ptr q2),aB (tSl tI) w3,fEq (ptr q4)]],aD i.2 71 aN i.1,aD v1 54 bH w2.AD]) ?_ ?_
 refine Z7 ?_
 refine gM aN 71 ?_
 refine aH [1,2,3,4,0,5] (by decide) ?_
 refine Tl (ι:=Nat × Int × List AT × Value) (fun i=>nB AA a1 y1 i.1 i.2.1 i.2.2.1=_) (fun i=>i.1) (fun i=>[(0,fI a0),(1,fSl tI a1),(2,aB cK w0),(3,aB (dY bO (fun y=>fSl tI y)) w1),(4,fEq (ptr q2)),(5,aB (tSl tI) w3),(6,fEq (ptr q4)),(9,fEq (ptr b1)),(10,fEq (ptr b2)),(11,fSl tI x2),(68,fSl aN y1.AW),(69,fI (y1.AW.length:Int)),(70,fI i.2.1)]) (fun i=>[aA b2 54 [fI y1.Op,fI x3,fEq i.2.2.2,fSl tI y2,fSl tI x1],aA b1 65 [fI y1.Op,fI y1.N,fSl aN y1.AW,fSl tI y1.AO],aA q2 30 [fSl aL w2.AH,fSl tI w2.AM,fEq v1,fSl aE w2.AF,fI w2.AG],aA q4 63 [bU 26 [aB cK w0,aB (dY bO (fun y=>fSl tI y)) w1,fEq (ptr q2),aB (tSl tI) w3,fEq (ptr q4)]],aD i.2.2.2 71 aN i.2.2.1,aD v1 54 bH w2.AD]) (AA,0,[],(.slice none 0 0)) H ?_
 clear H;rintro⟨k1,x8,x9,v4⟩ H
 replace H:nB AA a1 y1 k1 x8 x9=_:=H
 try dsimp only
 obtain _ | k1:=k1
 rw [nB]at H;cases H
 rw [nB]at H
 refine aF 4 rfl (fun hc_v4=>?_)
 refine Z3 ?_
 refine aJ ?_
 revert H;refine is (fun c5 H=>?_) fun c5 H=>?_
 refine Z3 ?_
 refine aJ ?_
 revert H;refine B2 fun y8 h8 H=>?_
 refine Z2 ?_
 refine Tn (bG rfl hO rfl) fun b3=>?_
 refine bZ (φs':=[fI y8.Op,fI y8.N,dK y8.AO]) a2e rfl rfl (has rfl) (has rfl) (aC (aI a2e) (aC (aI a2e) (aC (kP) bD))) (sz rfl) rfl rfl rfl ?_
 revert H;refine B1 fun y9 h9 H=>?_
 apply bW (ods:=[_,_,_,_,_,_]) 6 0 7 bV rfl rfl rfl
 refine ND ?_
 refine M4 ?_
 intros
 refine Nc (aIE _ _ _ _ h9) fun _=>?_
 refine Mf (φ:=fSl aN [y9]) (fN (t:=aN) (xs:=[y9]) rfl (et rfl) (cI.cons rfl (has rfl) cB cI.nil) rfl rfl rfl) (fun b=>dC) fun _=>?_
 revert H;refine B1 fun z1 h10 H=>?_
 refine cO ?_
 refine rG (ys:=[y9]) a2e rfl rfl rfl (has rfl) (has rfl) (et rfl) rfl h10 (fun v6=>?_)
 refine aF 0 rfl (fun hc_v6=>?_)
 refine Z1 ?_
 refine dT ?_
 refine dN (φs':=[fI y1.Op,fI x3,fEq v6,fSl tI y2,fSl tI x1]) a2e rfl rfl (has rfl) (has rfl) (aI hc_v6) (sz rfl) rfl rfl ?_
 revert H;refine B4 fun z2 h11 H=>?_
 refine Z3 ?_
 refine aH [0,3,4,5,1,6] (by decide) ?_
 exact Tm ((k1,z2,z1,v6)) ⟨H,ls⟩
 exact fk
 kernel_rfl
 refine Z6 ?_
 exact Tm ((x9,v4)) (ij H)
 clear H;intro i hi;obtain⟨x5,v2⟩:=i;subst o4;have H:=Hr4;clear Hr4;try dsimp only at H
 try dsimp only
 refine aF 4 rfl (fun hc_v2=>?_)
 revert H;refine B5 fun y10 h12 H=>?_
 refine Z1 ?_
 refine dD ?_
 refine cF (φ:=fSl aN x5) (v:=v2) [] dC (fun _ h=>nomatch h) ?_
 refine fJ (φs':=[fI y1.Op,fI x3,fSl aN x5,fSl tI y2,fSl tI x1]) (i:=2) rfl rfl ?_
 refine pY 86 (ψ:=dV [fI y1.Op,fI x3,fEq v2,fSl tI y2,fSl tI x1]) rfl (pC (i:=2) (φs:=[fI y1.Op,fI x3,fEq v2,fSl tI y2,fSl tI x1]) (φs':=[fI y1.Op,fI x3,fSl aN x5,fSl tI y2,fSl tI x1]) rfl rfl) ?_
 refine cE ?_
 refine dD ?_
 refine aGW (z:=(⟨y1.Op,x3,x5,y2,x1⟩:Ah)) a2e rfl rfl rfl (has rfl) (has rfl) (sz rfl) (a0K.1 (gD h12)).1 ?_
 revert H;refine B1 fun o5 H Hr5=>?_
 refine aS (ι:=List Int × List ByteArray × List Int × List Ah × List AN × Int × Value) (fun i=>o5=(i.1,i.2.1,i.2.2.1,i.2.2.2.1,i.2.2.2.2.1,i.2.2.2.2.2.1)) (fun i=>[(4,fEq (ptr q2)),(6,fEq (ptr q4)),(9,fEq (ptr b1)),(11,fSl tI i.1)]) (fun i=>[aA b2 54 [fI y1.Op,fI x3,fSl aN x5,fSl tI y2,fSl tI x1],aA b1 65 [fI y1.Op,fI y1.N,fSl aN y1.AW,fSl tI y1.AO],aA q2 30 [fSl aL i.2.1,fSl tI i.2.2.1,fEq i.2.2.2.2.2.2,fSl aE i.2.2.2.2.1,fI i.2.2.2.2.2.1],aA q4 63 [bU 26 [aB cK w0,aB (dY bO (fun y=>fSl tI y)) w1,fEq (ptr q2),aB (tSl tI) w3,fEq (ptr q4)]],aD i.2.2.2.2.2.2 54 bH i.2.2.2.1]) ?_ ?_
 revert H;refine I5 (fun c6 H=>?_) fun c6 H=>?_
 revert H;refine B6 fun y11 h13 H=>?_
 refine Z2 ?_
 refine Tn (bG rfl uD rfl) fun b5=>?_
 refine bZ (φs':=[fSl bX y11.AQ,fSl bQ y11.AS,fSl bF y11.AP]) a2e rfl rfl (has rfl) (has rfl) (aC (aP) (aC (aP) (aC (aP) bD))) (sz rfl) rfl rfl rfl ?_
 refine Z1 ?_
 refine aJ ?_
 revert H;refine bs fun y12 h14 H=>?_
 revert H;refine bs fun z3 h15 H=>?_
 revert H;refine bs fun y13 h16 H=>?_
 apply bW (ods:=[_,_,_,_,_,_,_,_,_,_,_,_,_]) 13 0 6 bV rfl rfl rfl
 refine ND ?_
 refine M8 ?_
 intros
 refine M3 ?_
 intros
 refine Nc (aAu _ _ _ _ h16) fun _=>?_
 refine M1 ?_
 intros
 refine Z5 ?_
 refine Yy (uJ (zα:=[]) (k:=a0) rfl hh hh rfl qU cW) ?_
 revert H;refine B1 fun y14 h17 H=>?_
 refine Tc (uE _ _ _ h17) ?_
 revert H;refine B2 fun o6 H Hr6=>?_
 refine aS (ι:=List ByteArray × List Int × List Ah × List AN × Int × Value) (fun i=>o6=(i.1,i.2.1,i.2.2.1,i.2.2.2.1,i.2.2.2.2.1)) (fun i=>[(1,fSl tI a1),(4,fEq (ptr q2)),(6,fEq (ptr q4)),(9,fEq (ptr b1)),(14,fEq (ptr b5)),(15,fSl tI y13),(16,fSl tI y14)]) (fun i=>[aA b5 77 [fSl bX y11.AQ,fSl bQ y11.AS,fSl bF y11.AP],aA b2 54 [fI y1.Op,fI x3,fSl aN x5,fSl tI y2,fSl tI x1],aA b1 65 [fI y1.Op,fI y1.N,fSl aN y1.AW,fSl tI y1.AO],aA q2 30 [fSl aL i.1,fSl tI i.2.1,fEq i.2.2.2.2.2,fSl aE i.2.2.2.1,fI i.2.2.2.2.1],aA q4 63 [bU 26 [aB cK w0,aB (dY bO (fun y=>fSl tI y)) w1,fEq (ptr q2),aB (tSl tI) w3,fEq (ptr q4)]],aD i.2.2.2.2.2 54 bH i.2.2.1]) ?_ ?_
 refine Z7 ?_
 refine aH [0,2,3,4,5,1] (by decide) ?_
 refine Tl (ι:=Nat × Int × List ByteArray × List Int × List Ah × List AN × Int × Value) (fun i=>nR AA (eW AA) a0 w0 w1 w3 y11 y13 y14 i.1 i.2.1 i.2.2.1 i.2.2.2.1 i.2.2.2.2.1 i.2.2.2.2.2.1 i.2.2.2.2.2.2.1=_) (fun i=>i.1) (fun i=>[(0,fI a0),(1,fSl tI a1),(4,fEq (ptr q2)),(5,aB (tSl tI) w3),(6,fEq (ptr q4)),(9,fEq (ptr b1)),(14,fEq (ptr b5)),(15,fSl tI y13),(16,fSl tI y14),(115,fSl bF y11.AP),(116,fI (y11.AP.length:Int)),(117,fI i.2.1)]) (fun i=>[aA b5 77 [fSl bX y11.AQ,fSl bQ y11.AS,fSl bF y11.AP],aA b2 54 [fI y1.Op,fI x3,fSl aN x5,fSl tI y2,fSl tI x1],aA b1 65 [fI y1.Op,fI y1.N,fSl aN y1.AW,fSl tI y1.AO],aA q2 30 [fSl aL i.2.2.1,fSl tI i.2.2.2.1,fEq i.2.2.2.2.2.2.2,fSl aE i.2.2.2.2.2.1,fI i.2.2.2.2.2.2.1],aA q4 63 [bU 26 [aB cK w0,aB (dY bO (fun y=>fSl tI y)) w1,fEq (ptr q2),aB (tSl tI) w3,fEq (ptr q4)]],aD i.2.2.2.2.2.2.2 54 bH i.2.2.2.2.1]) (AA,0,w2.AH,w2.AM,w2.AD.set a0.toNat (⟨y1.Op,x3,x5,y2,x1⟩:Ah),w2.AF,w2.AG,v1) H ?_
 clear H;rintro⟨k2,x27,x28,x29,x30,x31,x32,v10⟩ H
 replace H:nR AA (eW AA) a0 w0 w1 w3 y11 y13 y14 k2 x27 x28 x29 x30 x31 x32=_:=H
 try dsimp only
 obtain _ | k2:=k2
 rw [nR]at H;cases H
 rw [nR]at H
 refine aF 5 rfl (fun hc_v10=>?_)
 refine Z3 ?_
 refine aJ ?_
 revert H;refine is (fun c7 H=>?_) fun c7 H=>?_
 refine Z3 ?_
 refine aJ ?_
 revert H;refine B2 fun y15 h18 H=>?_
 refine Z2 ?_
 refine Tn (bG rfl sJ rfl) fun b6=>?_
 refine bZ (φs':=[fI y15.At,fSl tI y15.Ab,fI y15.AU]) a2e rfl rfl (has rfl) (has rfl) (aC (aI a2e) (aC (aP) (aC (aI a2e) bD))) (sz rfl) rfl rfl rfl ?_
 revert H;refine B1 fun y16 h19 H=>?_
 revert H;refine bs fun z4 h20 H=>?_
 revert H;refine bs fun y17 h21 H=>?_
 revert H;refine bs fun y18 h22 H=>?_
 revert H;refine bs fun y19 h23 H=>?_
 apply bW (ods:=[_,_,_,_,_,_,_,_,_,_,_,_,_,_,_,_]) 16 0 7 bV rfl rfl rfl
 refine ND ?_
 refine M8 ?_
 intros
 refine M5 ?_
 intros
 refine Nc (aFJ _ _ _ _ h21) fun _=>?_
 refine Nc (aAu _ _ _ _ h22) fun _=>?_
 refine Nc (uE _ _ _ h23) fun _=>?_
 refine Z1 ?_
 refine dA ?_
 refine cO ?_
 refine zU (x:=(⟨x28,x29,x30,x31,x32⟩:AE)) ?_
 refine cO ?_
 refine cL ?_
 revert H;refine bs fun y20 h24 H=>?_
 refine gI a2e rfl rfl rfl (has rfl) (aK.cons (has rfl) (aK.cons (has rfl) aK.nil)) rfl (cb rfl) (ih_flat_Flat_1 q2 q4 y15.AU y19 w0 w1 (⟨x28,x29,x30,x31,x32⟩:AE) w3 y20 h24) rfl ?_
 refine aAj (fun v11=>?_)
 refine aF 1 rfl (fun hc_v11=>?_)
 revert H;refine B4 fun z5 h25 H=>?_
 refine Z3 ?_
 refine aH [4,5,6,0,2,1] (by decide) ?_
 exact Tm ((k2,z5,y20.AH,y20.AM,y20.AD,y20.AF,y20.AG,v11)) ⟨H,ls⟩
 exact fk
 kernel_rfl
 refine Z6 ?_
 exact Tm ((x28,x29,x30,x31,x32,v10)) (ij H)
 clear H;intro i hi;obtain⟨x16,x17,x18,x19,x20,v8⟩:=i;subst o6;have H:=Hr6;clear Hr6;try dsimp only at H
 try dsimp only
 refine aF 5 rfl (fun hc_v8=>?_)
 revert H;refine bs fun o7 H Hr7=>?_
 refine aS (ι:=List ByteArray × List Int × List Ah × List AN × Int × Value) (fun i=>o7=(i.1,i.2.1,i.2.2.1,i.2.2.2.1,i.2.2.2.2.1)) (fun i=>[(1,fSl tI a1),(4,fEq (ptr q2)),(6,fEq (ptr q4)),(9,fEq (ptr b1)),(15,fSl tI y13)]) (fun i=>[aA b5 77 [fSl bX y11.AQ,fSl bQ y11.AS,fSl bF y11.AP],aA b2 54 [fI y1.Op,fI x3,fSl aN x5,fSl tI y2,fSl tI x1],aA b1 65 [fI y1.Op,fI y1.N,fSl aN y1.AW,fSl tI y1.AO],aA q2 30 [fSl aL i.1,fSl tI i.2.1,fEq i.2.2.2.2.2,fSl aE i.2.2.2.1,fI i.2.2.2.2.1],aA q4 63 [bU 26 [aB cK w0,aB (dY bO (fun y=>fSl tI y)) w1,fEq (ptr q2),aB (tSl tI) w3,fEq (ptr q4)]],aD i.2.2.2.2.2 54 bH i.2.2.1]) ?_ ?_
 refine Z7 ?_
 refine Tl (ι:=Nat × Int × List ByteArray × List Int × List Ah × List AN × Int × Value) (fun i=>oV (eW AA) w0 w1 w3 y11 y14 i.1 i.2.1 i.2.2.1 i.2.2.2.1 i.2.2.2.2.1 i.2.2.2.2.2.1 i.2.2.2.2.2.2.1=_) (fun i=>i.1) (fun i=>[(1,fSl tI a1),(4,fEq (ptr q2)),(6,fEq (ptr q4)),(9,fEq (ptr b1)),(15,fSl tI y13),(16,fSl tI y14),(140,fSl bQ y11.AS),(141,fI (y11.AS.length:Int)),(142,fI i.2.1)]) (fun i=>[aA b5 77 [fSl bX y11.AQ,fSl bQ y11.AS,fSl bF y11.AP],aA b2 54 [fI y1.Op,fI x3,fSl aN x5,fSl tI y2,fSl tI x1],aA b1 65 [fI y1.Op,fI y1.N,fSl aN y1.AW,fSl tI y1.AO],aA q2 30 [fSl aL i.2.2.1,fSl tI i.2.2.2.1,fEq i.2.2.2.2.2.2.2,fSl aE i.2.2.2.2.2.1,fI i.2.2.2.2.2.2.1],aA q4 63 [bU 26 [aB cK w0,aB (dY bO (fun y=>fSl tI y)) w1,fEq (ptr q2),aB (tSl tI) w3,fEq (ptr q4)]],aD i.2.2.2.2.2.2.2 54 bH i.2.2.2.2.1]) (AA,0,x16,x17,x18,x19,x20,v8) H ?_
 clear H;rintro⟨k3,x44,x45,x46,x47,x48,x49,v14⟩ H
 replace H:oV (eW AA) w0 w1 w3 y11 y14 k3 x44 x45 x46 x47 x48 x49=_:=H
 try dsimp only
 obtain _ | k3:=k3
 rw [oV]at H;cases H
 rw [oV]at H
 refine aF 5 rfl (fun hc_v14=>?_)
 refine Z3 ?_
 refine aJ ?_
 revert H;refine is (fun c8 H=>?_) fun c8 H=>?_
 refine Z3 ?_
 refine aJ ?_
 revert H;refine B2 fun y21 h26 H=>?_
 refine Z2 ?_
 refine Tn (bG rfl vL rfl) fun b7=>?_
 refine bZ (φs':=[fI y21.In,fI y21.AU]) a2e rfl rfl (has rfl) (has rfl) (aC (aI a2e) (aC (aI a2e) bD)) (sz rfl) rfl rfl rfl ?_
 refine Z6 ?_
 refine dA ?_
 refine cO ?_
 refine zU (x:=(⟨x45,x46,x47,x48,x49⟩:AE)) ?_
 refine cO ?_
 refine cL ?_
 revert H;refine bs fun y22 h27 H=>?_
 refine gI a2e rfl rfl rfl (has rfl) (aK.cons (has rfl) (aK.cons (has rfl) aK.nil)) rfl (cb rfl) (ih_flat_Flat_1 q2 q4 y21.AU y14 w0 w1 (⟨x45,x46,x47,x48,x49⟩:AE) w3 y22 h27) rfl ?_
 refine aAj (fun v15=>?_)
 refine aF 1 rfl (fun hc_v15=>?_)
 revert H;refine B4 fun z6 h28 H=>?_
 refine Z3 ?_
 refine aH [4,5,6,0,2,1] (by decide) ?_
 exact Tm ((k3,z6,y22.AH,y22.AM,y22.AD,y22.AF,y22.AG,v15)) ⟨H,ls⟩
 refine Z6 ?_
 exact Tm ((x45,x46,x47,x48,x49,v14)) (ij H)
 clear H;intro i hi;obtain⟨x33,x34,x35,x36,x37,v12⟩:=i;subst o7;have H:=Hr7;clear Hr7;try dsimp only at H
 try dsimp only
 refine aF 5 rfl (fun hc_v12=>?_)
 revert H;refine B3 fun y23 h29 H=>?_
 refine Tc (uE _ _ _ h29) ?_
 refine Z2 ?_
 refine aH [1,2,3,4,5] (by decide) ?_
 exact Tm ((y23,x33,x34,x35,x36,x37,v12)) (ij H)
 exact fk
 kernel_rfl
 refine Z3 ?_
 refine aH [1,2,3,4,0] (by decide) ?_
 exact Tm ((x2,w2.AH,w2.AM,w2.AD.set a0.toNat (⟨y1.Op,x3,x5,y2,x1⟩:Ah),w2.AF,w2.AG,v1)) (ij H)
 clear H;intro i hi;obtain⟨x10,x11,x12,x13,x14,x15,v7⟩:=i;subst o5;have H:=Hr5;clear Hr5;try dsimp only at H
 try dsimp only
 refine aF 4 rfl (fun hc_v7=>?_)
 refine Z7 ?_
 refine Tl (ι:=Nat × Int × List ByteArray × List Int × List Ah × List AN × Int × Value) (fun i=>mP (eW AA) w0 w1 w3 y1 x10 i.1 i.2.1 i.2.2.1 i.2.2.2.1 i.2.2.2.2.1 i.2.2.2.2.2.1 i.2.2.2.2.2.2.1=_) (fun i=>i.1) (fun i=>[(4,fEq (ptr q2)),(6,fEq (ptr q4)),(11,fSl tI x10),(156,fSl tI y1.AO),(157,fI (y1.AO.length:Int)),(158,fI i.2.1)]) (fun i=>[aA b2 54 [fI y1.Op,fI x3,fSl aN x5,fSl tI y2,fSl tI x1],aA b1 65 [fI y1.Op,fI y1.N,fSl aN y1.AW,fSl tI y1.AO],aA q2 30 [fSl aL i.2.2.1,fSl tI i.2.2.2.1,fEq i.2.2.2.2.2.2.2,fSl aE i.2.2.2.2.2.1,fI i.2.2.2.2.2.2.1],aA q4 63 [bU 26 [aB cK w0,aB (dY bO (fun y=>fSl tI y)) w1,fEq (ptr q2),aB (tSl tI) w3,fEq (ptr q4)]],aD i.2.2.2.2.2.2.2 54 bH i.2.2.2.2.1]) (AA,0,x11,x12,x13,x14,x15,v7) H ?_
 clear H;rintro⟨k4,x56,x57,x58,x59,x60,x61,v17⟩ H
 replace H:mP (eW AA) w0 w1 w3 y1 x10 k4 x56 x57 x58 x59 x60 x61=_:=H
 try dsimp only
 obtain _ | k4:=k4
 rw [mP]at H;cases H
 rw [mP]at H
 refine aF 4 rfl (fun hc_v17=>?_)
 refine Z3 ?_
 refine aJ ?_
 revert H;refine is (fun c9 H=>?_) fun c9 H=>?_
 refine Z3 ?_
 refine aJ ?_
 revert H;refine B2 fun y24 h30 H=>?_
 refine Z8 ?_
 refine dD ?_
 refine eM ?_
 refine zU (x:=(⟨x57,x58,x59,x60,x61⟩:AE)) ?_
 refine eM ?_
 refine cL ?_
 revert H;refine bs fun y25 h31 H=>?_
 refine gI a2e rfl rfl rfl (has rfl) (aK.cons (has rfl) (aK.cons (has rfl) aK.nil)) rfl (cb rfl) (ih_flat_Flat_1 q2 q4 y24 x10 w0 w1 (⟨x57,x58,x59,x60,x61⟩:AE) w3 y25 h31) rfl ?_
 refine aAj (fun v18=>?_)
 refine aF 1 rfl (fun hc_v18=>?_)
 revert H;refine B4 fun z7 h32 H=>?_
 refine Z3 ?_
 refine aH [3,4,0,2,1] (by decide) ?_
 exact Tm ((k4,z7,y25.AH,y25.AM,y25.AD,y25.AF,y25.AG,v18)) ⟨H,ls⟩
 refine Z5 ?_
 refine dD ?_
 refine eM ?_
 refine zU (x:=(⟨x57,x58,x59,x60,x61⟩:AE)) ?_
 cases H
 refine aH [0,3] (by decide) ?_
 exact jQ (.inr rfl) rfl rfl
 exact fk
 kernel_rfl
def zE (AA:Nat) (a0:AI):Option (AE × Int):=
 (tK AA (⟨a0.AH,a0.AD,a0.AF,a0.AG⟩:AI)).bind fun y1=>
 if y1.2≠0 then
  some ((⟨[],[],[],[],0⟩:AE),y1.2)
 else
  (uX AA (⟨a0.AH,a0.AD,a0.AF,a0.AG⟩:AI)).bind fun y2=>
  (tW a0.AH).bind fun y3=>
  (fC ((y1.1.get (-1)).getD [])).bind fun y4=>
  (mk (⟨0,0,[],[],[]⟩:Ah) (a0.AD.length:Int)).bind fun y5=>
  (tT AA a0.AF).bind fun y6=>
  (eW AA ((⟨a0.AH,a0.AD,a0.AF,a0.AG⟩:AI).AG) y4 (⟨a0.AH,a0.AD,a0.AF,a0.AG⟩:AI) y1.1 (⟨y3,y4,y5,y6,a0.AG⟩:AE) y2.1).bind fun y7=>
  some ((⟨y7.AH,y7.AM,y7.AD,y7.AF,y7.AG⟩:AE),0)
theorem aIq (AA:Nat)  (a0:AI) (r:AE × Int) (H:zE AA a0=some r):FnS Tryz.prog 7 [fSt cK a0] [] (cV [fSt lF r.1,fI r.2]) (fun _=>[]):=by
 unfold zE at H
 refine bL Tryz.func7 rfl Tryz.ntmps7 rfl (fun β=>?_)
 refine Z1 ?_
 refine Tn (cC rfl hh cB) fun b1=>?_
 refine Tn (bG rfl aD0 rfl) fun b2=>?_
 revert H;refine B4 fun y1 h1 H=>?_
 refine Tc (aHM _ _ _ h1) ?_
 refine Z3 ?_
 refine Tn (bG rfl aHY rfl) fun b3=>?_
 refine dN (φs':=[jO bO (fun y=>fSl tI y) y1.1]) a2e rfl rfl (has rfl) (has rfl) (aDr) (sz rfl) rfl rfl ?_
 refine Z2 ?_
 refine aJ ?_
 revert H;refine I4 (fun c1 H=>?_) fun c1 H=>?_
 refine Z2 ?_
 refine Yy (fY (ψs:=[fEq (.slice none 0 0),fEq (.slice none 0 0),fEq (.slice none 0 0),fEq (.slice none 0 0),fI 0]) rfl aGC rfl bJ.nil rfl) ?_
 refine Z1 ?_
 refine cL ?_
 refine bZ (φs':=[fEq (.slice none 0 0),fEq (.slice none 0 0),fEq (.slice none 0 0),fEq (.slice none 0 0),fI 0]) a2e rfl rfl (has rfl) (has rfl) (aC (aI a2e) (aC (aI a2e) (aC (aI a2e) (aC (aI a2e) (aC (aI a2e) bD))))) (sz rfl) rfl rfl rfl ?_
 refine Z3 ?_
 cases H
 refine aH [0] (by decide) ?_
 exact pG rfl (ag rfl) rfl (bS rfl) (bS rfl) (qS (aO.cons cW (aO.cons cW (aO.cons cW (aO.cons cW (aO.cons Ent.rfl aO.nil)))))) rfl
 revert H;refine B5 fun y2 h2 H=>?_
 refine Tc (aFS _ _ _ h2) ?_
 refine Z3 ?_
 refine Tn (bG rfl aAb rfl) fun b4=>?_
 refine dN (φs':=[fSl tI y2.1]) a2e rfl rfl (has rfl) (has rfl) (aP) (sz rfl) rfl rfl ?_
 refine Z2 ?_
 refine aJ ?_
 revert H;refine bs fun y3 h3 H=>?_
 revert H;refine bs fun y4 h4 H=>?_
 revert H;refine bs fun y5 h5 H=>?_
 revert H;refine bs fun y6 h6 H=>?_
 apply bW (ods:=[_,_,_,_,_,_,_,_,_,_,_,_,_,_,_,_,_,_]) 18 2 6 bV rfl rfl rfl
 refine ND ?_
 refine M2 ?_
 intros
 refine Nc (aFX _ _ h3) fun _=>?_
 refine M1 ?_
 intros
 refine My (uJ (zα:=[]) (k:=(-1)) rfl hh hh rfl qU cW) fun _=>?_
 refine vH (od:=odC [] true (fSl tI y4) []) (Φ:=fSl tI y4) rfl (fun _=>rfl) a2e rfl rfl (has rfl) (aK.cons (has rfl) aK.nil) rfl (cb rfl) (rP ((y1.1.get (-1)).getD []) y4 h4) (fun _=>?_)
 refine M3 ?_
 intros
 refine Mn 4 (fun b5=> .slice (some ⟨b5,0,none⟩) y5.length y5.length) (fun b5=>aD (.slice (some ⟨b5,0,none⟩) y5.length y5.length) 54 bH y5) rfl (aAI (t:=bH) (z:=(⟨0,0,[],[],[]⟩:Ah)) rfl (has rfl) (et rfl) rfl zD (aO.cons Ent.rfl (aO.cons Ent.rfl (aO.cons cW (aO.cons cW (aO.cons cW aO.nil))))) h5) (fun b5 u1=>?_)
 refine M2 ?_
 intros
 refine Nc (aFW _ _ _ h6) fun _=>?_
 refine M2 ?_
 intros
 refine D1 9 b5 _ (fun b5 _=>dV [fSl aL y3,fSl tI y4,fEq (.slice (some ⟨b5,0,none⟩) y5.length y5.length),fSl aE y6,fI a0.AG]) rfl (fY (ψs:=[fSl aL y3,fSl tI y4,fEq (.slice (some ⟨b5,0,none⟩) y5.length y5.length),fSl aE y6,fI a0.AG]) rfl aGC rfl (bJ.cons (has rfl) (cJ (aP)) (bJ.cons (has rfl) (cJ (aP)) (bJ.cons (has rfl) (cJ (aI a2e)) (bJ.cons (has rfl) (cJ (aP)) (bJ.cons (has rfl) (cJ (aI a2e)) bJ.nil))))) rfl) (fun _=>?_)
 refine Mn 5 (fun b6=>ptr b6) (fun b6=>aA b6 30 [fEq (.slice none 0 0),fEq (.slice none 0 0),fEq (.slice none 0 0),fEq (.slice none 0 0),fI 0]) rfl (bG rfl aD0 rfl) (fun b6 u2=>?_)
 refine rX (od:=od2 9 16 [5] true (fun b5 _ b6 _=>fB) (fun b5 _ b6 _=>[aA b6 30 [fSl aL y3,fSl tI y4,fEq (.slice (some ⟨b5,0,none⟩) y5.length y5.length),fSl aE y6,fI a0.AG]])) (p:=5) (φs':=[fSl aL y3,fSl tI y4,fEq (.slice (some ⟨b5,0,none⟩) y5.length y5.length),fSl aE y6,fI a0.AG]) rfl (fun _=>rfl) (fun _=>rfl) a2e rfl rfl rfl (has rfl) (has rfl) (aC (aP) (aC (aP) (aC (aI a2e) (aC (aP) (aC (aI a2e) bD))))) (sz rfl) rfl rfl rfl (fun _=>?_)
 refine Z1 ?_
 generalize (Value.slice (some ⟨b5,0,none⟩) _ _)=v1
 refine aF 4 rfl (fun hc_v1=>?_)
 refine Z2 ?_
 refine Tn (bG rfl ty_ze_63 rfl) fun b7=>?_
 refine Z2 ?_
 refine dD ?_
 refine cF (φ:=aB cK (⟨a0.AH,a0.AD,a0.AF,a0.AG⟩:AI)) (v:=ptr b1) [1,24] (gH aO.rfl) fz ?_
 refine cE ?_
 refine dT ?_
 refine cF (φ:=aB (dY bO (fun y=>fSl tI y)) y1.1) (v:=ptr b3) [4] (gH aO.rfl) fz ?_
 refine cE ?_
 refine cL ?_
 refine cF (φ:=aB (tSl tI) y2.1) (v:=ptr b4) [6] (gH aO.rfl) fz ?_
 refine cE ?_
 refine Yy (mR rfl (aK.cons hh (aK.cons hh (aK.cons hh (aK.cons hh (aK.cons hh aK.nil)))))) ?_
 refine dN (φs':=[bU 26 [aB cK (⟨a0.AH,a0.AD,a0.AF,a0.AG⟩:AI),aB (dY bO (fun y=>fSl tI y)) y1.1,fEq (ptr b6),aB (tSl tI) y2.1,fEq (ptr b7)]]) a2e rfl rfl (has rfl) (has rfl) (aDt) (sz rfl) rfl rfl ?_
 refine Z7 ?_
 refine dT ?_
 refine eM ?_
 refine zU (x:=(⟨y3,y4,y5,y6,a0.AG⟩:AE)) ?_
 revert H;refine bs fun y7 h7 H=>?_
 refine gI a2e rfl rfl rfl (has rfl) (aK.cons (has rfl) (aK.cons (has rfl) aK.nil)) rfl (cb rfl) (aKF AA b6 b7 ((⟨a0.AH,a0.AD,a0.AF,a0.AG⟩:AI).AG) y4 (⟨a0.AH,a0.AD,a0.AF,a0.AG⟩:AI) y1.1 (⟨y3,y4,y5,y6,a0.AG⟩:AE) y2.1 y7 h7) rfl ?_
 refine aAj (fun v2=>?_)
 refine aF 1 rfl (fun hc_v2=>?_)
 refine Z3 ?_
 refine eM ?_
 refine bZ (φs':=[fSl aL y7.AH,fSl tI y7.AM,fEq v2,fSl aE y7.AF,fI y7.AG]) a2e rfl rfl (has rfl) (has rfl) (aC (aP) (aC (aP) (aC (aI hc_v2) (aC (aP) (aC (aI a2e) bD))))) (sz rfl) rfl rfl rfl ?_
 refine Z3 ?_
 refine dT ?_
 refine cF (φ:=fSl bH y7.AD) (v:=v2) [] dC (fun _ h=>nomatch h) ?_
 refine fJ (φs':=[fSl aL y7.AH,fSl tI y7.AM,fSl bH y7.AD,fSl aE y7.AF,fI y7.AG]) (i:=2) rfl rfl ?_
 refine dT ?_
 refine cL ?_
 refine fJ (φs':=[fSl aL y7.AH,fSl tI y7.AM,fSl bH y7.AD,fSl aE y7.AF,fI y7.AG]) (i:=2) rfl rfl ?_
 refine pY 47 (ψ:=dV [fSl aL y7.AH,fSl tI y7.AM,fEq v2,fSl aE y7.AF,fI y7.AG]) rfl (pC (i:=2) (φs:=[fSl aL y7.AH,fSl tI y7.AM,fEq v2,fSl aE y7.AF,fI y7.AG]) (φs':=[fSl aL y7.AH,fSl tI y7.AM,fSl bH y7.AD,fSl aE y7.AF,fI y7.AG]) rfl rfl) ?_
 refine cE ?_
 cases H
 refine aH [1] (by decide) ?_
 exact pG rfl (ag rfl) rfl (bS rfl) (bS rfl) Ent.rfl rfl
 exact fk
 kernel_rfl
def nH (a0:List Int) (a1:Int):Nat->Int->Option ((Unit) ⊕ (Bool))
| 0,_=>none
| k+1,x2=>
 if x2<(a0.length:Int)then
  ((idx a0 x2).bind fun y1=>
  if y1<0 then
   ((some false).bind fun r=>some (Sum.inr r)).bind fun r=>some (Sum.inr r)
  else
   if a1<=y1 then
    ((some false).bind fun r=>some (Sum.inr r)).bind fun r=>some (Sum.inr r)
   else
    if 0<x2 then
     (chk (x2 - 1)).bind fun z1=>
     (idx a0 z1).bind fun y2=>
     if y1<=y2 then
      ((some false).bind fun r=>some (Sum.inr r)).bind fun r=>some (Sum.inr r)
     else
      some (Sum.inl ())
    else
     some (Sum.inl ())).bind fun o=>match o with
  | Sum.inr r=>some r
  | Sum.inl _=>
  (chk (x2+1)).bind fun z2=>
  nH a0 a1 k z2
 else
  some (Sum.inl ())
def rI (AA:Nat) (a0:List Int) (a1:Int):Option (Bool):=
 (nH a0 a1 AA 0).bind fun o=>match o with
 | Sum.inr r=>some r
 | Sum.inl _=>
 some true
theorem aDN (AA:Nat)  (a0:List Int) (a1:Int) (r:Bool) (H:rI AA a0 a1=some r):FnS Tryz.prog 76 [fSl tI a0,fI a1] [] (aR r) (fun _=>[]):=by
 unfold rI at H
 refine bL Tryz.func76 rfl Tryz.ntmps76 rfl (fun β=>?_)
 revert H;refine B3 fun o1 H Hr1=>?_
 refine aS (ι:=Unit) (fun i=>o1=Sum.inl ()) (fun i=>[]) (fun i=>[]) ?_ ?_
 refine Z6 ?_
 refine Tl (ι:=Nat × Int) (fun i=>nH a0 a1 i.1 i.2=_) (fun i=>i.1) (fun i=>[(0,fSl tI a0),(1,fI a1),(7,fSl tI a0),(8,fI (a0.length:Int)),(9,fI i.2)]) (fun i=>[]) (AA,0) H ?_
 clear H;rintro⟨k1,x2⟩ H
 replace H:nH a0 a1 k1 x2=_:=H
 try dsimp only
 obtain _ | k1:=k1
 rw [nH]at H;cases H
 rw [nH]at H
 refine Z3 ?_
 refine aJ ?_
 revert H;refine is (fun c1 H=>?_) fun c1 H=>?_
 revert H;refine B3 fun o2 H Hr2=>?_
 refine aS (ι:=Unit) (fun i=>o2=Sum.inl ()) (fun i=>[(0,fSl tI a0),(1,fI a1),(7,fSl tI a0),(8,fI (a0.length:Int)),(9,fI x2)]) (fun i=>[]) ?_ ?_
 revert H;refine B3 fun y1 h1 H=>?_
 revert H;refine I9 (fun c2 H=>?_) fun c2 H=>?_
 refine Z8 ?_
 refine eO (⟨_,_,_,_,rfl,rfl,rfl,nu⟩) rfl rfl ?_
 refine eO (⟨_,_,_,_,rfl,rfl,rfl,nu⟩) rfl rfl ?_
 refine eO (⟨_,_,_,_,rfl,rfl,rfl,nu⟩) rfl rfl ?_
 refine eO (⟨_,_,_,_,rfl,rfl,rfl,nu⟩) rfl rfl ?_
 refine eO (⟨_,_,_,_,rfl,rfl,rfl,nu⟩) rfl rfl ?_
 refine eO (⟨_,_,_,_,rfl,rfl,rfl,nu⟩) rfl rfl ?_
 refine eO (⟨_,_,_,_,rfl,rfl,rfl,nu⟩) rfl rfl ?_
 revert H;refine B10 fun r1 H e1=>?_
 cases e1;cases Hr2
 revert H;refine B3 fun r2 H e2=>?_
 cases e2;cases Hr1
 cases H
 exact To
 revert H;refine I5 (fun c3 H=>?_) fun c3 H=>?_
 refine Z3 ?_
 refine eO (⟨_,_,_,_,rfl,rfl,rfl,nu⟩) rfl rfl ?_
 refine eO (⟨_,_,_,_,rfl,rfl,rfl,nu⟩) rfl rfl ?_
 refine eO (⟨_,_,_,_,rfl,rfl,rfl,nu⟩) rfl rfl ?_
 refine eO (⟨_,_,_,_,rfl,rfl,rfl,nu⟩) rfl rfl ?_
 refine eO (⟨_,_,_,_,rfl,rfl,rfl,nu⟩) rfl rfl ?_
 refine eO (⟨_,_,_,_,rfl,rfl,rfl,nu⟩) rfl rfl ?_
 refine eO (⟨_,_,_,_,rfl,rfl,rfl,nu⟩) rfl rfl ?_
 revert H;refine B10 fun r3 H e3=>?_
 cases e3;cases Hr2
 revert H;refine B3 fun r4 H e4=>?_
 cases e4;cases Hr1
 cases H
 exact To
 revert H;refine I3 (fun c4 H=>?_) fun c4 H=>?_
 revert H;refine B3 fun z1 h2 H=>?_
 revert H;refine B1 fun y2 h3 H=>?_
 revert H;refine I6 (fun c5 H=>?_) fun c5 H=>?_
 revert H;refine B7 fun r5 H e5=>?_
 cases e5;cases Hr2
 revert H;refine B3 fun r6 H e6=>?_
 cases e6;cases Hr1
 cases H
 exact To
 refine Z4 ?_
 exact Tm (()) (ij H)
 refine Z12 ?_
 refine Z2 ?_
 exact Tm (()) (ij H)
 clear H;intro i hi;subst o2;have H:=Hr2;clear Hr2;try dsimp only at H
 try dsimp only
 revert H;refine B1 fun z2 h4 H=>?_
 refine Z3 ?_
 exact Tm ((k1,z2)) ⟨H,ls⟩
 refine Z6 ?_
 exact Tm (()) (ij H)
 clear H;intro i hi;subst o1;have H:=Hr1;clear Hr1;try dsimp only at H
 try dsimp only
 refine Z4 ?_
 cases H
 exact To
def oF (a0:List Int) (a1:List Int):Nat->(List Int)->Int->Option (List Int)
| 0,_,_=>none
| k+1,x4,x5=>
 if x5<(a1.length:Int)then
  (idx a1 x5).bind fun y1=>
  (idx a0 y1).bind fun y2=>
  (cQ (x4++[y2])).bind fun z1=>
  (chk (x5+1)).bind fun z2=>
  oF a0 a1 k z1 z2
 else
  some x4
def uK (AA:Nat) (a0:List Int) (a1:List Int):Option (List Int):=
 (oF a0 a1 AA [] 0).bind fun x1=>
 some x1
theorem aKf (AA:Nat)  (a0:List Int) (a1:List Int) (r:List Int) (H:uK AA a0 a1=some r):FnS Tryz.prog 106 [fSl tI a0,fSl tI a1] [] (fSl tI r) (fun _=>[]):=by
 unfold uK at H
 refine bL Tryz.func106 rfl Tryz.ntmps106 rfl (fun β=>?_)
 revert H;refine B6 fun o1 H Hr1=>?_
 refine aS (ι:=List Int × Value) (fun i=>o1=i.1) (fun i=>[(5,fEq i.2)]) (fun i=>[aD i.2 3 tI i.1]) ?_ ?_
 refine Z6 ?_
 refine gM tI 3 ?_
 refine Tl (ι:=Nat × List Int × Int × Value) (fun i=>oF a0 a1 i.1 i.2.1 i.2.2.1=_) (fun i=>i.1) (fun i=>[(0,fSl tI a0),(5,fEq i.2.2.2),(8,fSl tI a1),(9,fI (a1.length:Int)),(10,fI i.2.2.1)]) (fun i=>[aD i.2.2.2 3 tI i.2.1]) (AA,[],0,(.slice none 0 0)) H ?_
 clear H;rintro⟨k1,x4,x5,v3⟩ H
 replace H:oF a0 a1 k1 x4 x5=_:=H
 try dsimp only
 obtain _ | k1:=k1
 rw [oF]at H;cases H
 rw [oF]at H
 refine aF 0 rfl (fun hc_v3=>?_)
 refine Z3 ?_
 refine aJ ?_
 revert H;refine is (fun c1 H=>?_) fun c1 H=>?_
 refine Z3 ?_
 refine aJ ?_
 revert H;refine B2 fun y1 h1 H=>?_
 revert H;refine B8 fun y2 h2 H=>?_
 refine Z2 ?_
 refine Tn (fN (t:=tI) (xs:=[y2]) rfl (et rfl) (cI.cons rfl (has rfl) (cJ (aI a2e)) cI.nil) rfl rfl rfl) fun b1=>?_
 generalize (Value.slice (some ⟨b1,0,none⟩) _ _)=v4
 refine aF 0 rfl (fun hc_v4=>?_)
 revert H;refine bs fun z1 h3 H=>?_
 refine jE a2e rfl rfl rfl (has rfl) (has rfl) (et rfl) rfl h3 (fun v5=>?_)
 refine aF 0 rfl (fun hc_v5=>?_)
 revert H;refine B5 fun z2 h4 H=>?_
 refine Z3 ?_
 exact Tm ((k1,z1,z2,v5)) ⟨H,ls⟩
 refine Z6 ?_
 exact Tm ((x4,v3)) (ij H)
 clear H;intro i hi;obtain⟨x1,v1⟩:=i;subst o1;have H:=Hr1;clear Hr1;try dsimp only at H
 try dsimp only
 refine aF 0 rfl (fun hc_v1=>?_)
 refine Z5 ?_
 refine cF (φ:=fSl tI x1) (v:=v1) [5,22,4] dC fz ?_
 refine cE ?_
 cases H
 exact To
open Go.SX Go.SW Go.Dt
def lE (rec_flat_exp:AT->(List Int)->Option (AT × Bool)) (a0:AT) (a1:List Int) (x1:Int):Nat->Int->(List AT)->Option ((List AT) ⊕ (AT × Bool))
| 0,_,_=>none
| k+1,x5,x6=>
 if x5<(a0.AO.length:Int)then
  (idx a0.AO x5).bind fun y2=>
  (rec_flat_exp (⟨y2.Op,y2.N,y2.AO⟩:AT) a1).bind fun y3=>
  bif y3.2 then
   (cQ (x6++[(⟨y3.1.Op,y3.1.N,y3.1.AO⟩:AT)])).bind fun z1=>
   (chk (x5+1)).bind fun z2=>
   lE rec_flat_exp a0 a1 x1 k z2 z1
  else
   (some ((⟨a0.Op,x1,x6⟩:AT),false)).bind fun r=>some (Sum.inr r)
 else
  some (Sum.inl x6)
def jY:Nat->AT->(List Int)->Option (AT × Bool)
| 0,_,_=>none
| AA+1,a0,a1=>
 (if a0.Op=2 then
  if a0.N<0 then
   (some ((⟨a0.Op,a0.N,[]⟩:AT),false)).bind fun r=>some (Sum.inr r)
  else
   if (a1.length:Int)<=a0.N then
    (some ((⟨a0.Op,a0.N,[]⟩:AT),false)).bind fun r=>some (Sum.inr r)
   else
    (idx a1 a0.N).bind fun y1=>
    some (Sum.inl y1)
 else
  some (Sum.inl a0.N)).bind fun o=>match o with
 | Sum.inr r=>some r
 | Sum.inl x1=>
 (lE (jY AA) a0 a1 x1 AA 0 []).bind fun o=>match o with
 | Sum.inr r=>some r
 | Sum.inl x2=>
 some ((⟨a0.Op,x1,x2⟩:AT),true)
theorem aJr:∀ (AA:Nat),(∀  (a0:AT) (a1:List Int) (r:AT × Bool) (H:jY AA a0 a1=some r),FnS Tryz.prog 107 [fSt aN a0,fSl tI a1] [] (cV [fSt aN r.1,aR r.2]) (fun _=>[])):=by
 intro AA
 induction AA with
 | zero=>exact fun a0 a1 r H=>(by rw [jY]at H;cases H)
 | succ AA ih=>
 have ih_flat_exp:=@ih
 refine ?_
 intro a0 a1 r H
 rw [jY]at H
 refine bL Tryz.func107 rfl Tryz.ntmps107 rfl (fun β=>?_)
 refine Z1 ?_
 refine Tn (cC rfl hh cB) fun b1=>?_
 refine Tn (bG rfl hO rfl) fun b2=>?_
 refine Z7 ?_
 refine Yy (fY (ψs:=[fI a0.Op,fI a0.N,fEq (.slice none 0 0)]) rfl aFC rfl (bJ.cons (has rfl) (cJ (aI a2e)) (bJ.cons (has rfl) (cJ (aI a2e)) bJ.nil)) rfl) ?_
 refine Tn (bG rfl hO rfl) fun b3=>?_
 refine bZ (φs':=[fI a0.Op,fI a0.N,fEq (.slice none 0 0)]) a2e rfl rfl (has rfl) (has rfl) (aC (aI a2e) (aC (aI a2e) (aC (aI a2e) bD))) (sz rfl) rfl rfl rfl ?_
 revert H;refine B1 fun o1 H Hr1=>?_
 refine aS (ι:=Int) (fun i=>o1=Sum.inl i) (fun i=>[(1,fSl tI a1),(2,fEq (ptr b1)),(4,fEq (ptr b2)),(6,fEq (ptr b3))]) (fun i=>[aA b3 71 [fI a0.Op,fI i,fEq (.slice none 0 0)],aA b2 71 [fI 0,fI 0,fEq (.slice none 0 0)],aA b1 71 [fI a0.Op,fI a0.N,dK a0.AO]]) ?_ ?_
 revert H;refine I5 (fun c1 H=>?_) fun c1 H=>?_
 refine Z1 ?_
 refine aJ ?_
 revert H;refine I5 (fun c2 H=>?_) fun c2 H=>?_
 refine Z10 ?_
 refine cL ?_
 refine bZ (φs':=[fI a0.Op,fI a0.N,fEq (.slice none 0 0)]) a2e rfl rfl (has rfl) (has rfl) (aC (aI a2e) (aC (aI a2e) (aC (aI a2e) bD))) (sz rfl) rfl rfl rfl ?_
 revert H;refine B4 fun r1 H e1=>?_
 cases e1;cases Hr1
 cases H
 refine aH [0] (by decide) ?_
 exact pG rfl (ag rfl) rfl (bS rfl) (bS rfl) (qS (aO.cons Ent.rfl (aO.cons Ent.rfl (aO.cons (yG cW) aO.nil)))) rfl
 revert H;refine I7 (fun c3 H=>?_) fun c3 H=>?_
 refine Z3 ?_
 refine cL ?_
 refine bZ (φs':=[fI a0.Op,fI a0.N,fEq (.slice none 0 0)]) a2e rfl rfl (has rfl) (has rfl) (aC (aI a2e) (aC (aI a2e) (aC (aI a2e) bD))) (sz rfl) rfl rfl rfl ?_
 revert H;refine B4 fun r2 H e2=>?_
 cases e2;cases Hr1
 cases H
 refine aH [0] (by decide) ?_
 exact pG rfl (ag rfl) rfl (bS rfl) (bS rfl) (qS (aO.cons Ent.rfl (aO.cons Ent.rfl (aO.cons (yG cW) aO.nil)))) rfl
 revert H;refine B7 fun y1 h1 H=>?_
 refine Z3 ?_
 refine dN (φs':=[fI a0.Op,fI y1,fEq (.slice none 0 0)]) a2e rfl rfl (has rfl) (has rfl) (aI a2e) (sz rfl) rfl rfl ?_
 refine Z1 ?_
 exact Tm (y1) (ij H)
 refine Z3 ?_
 exact Tm (a0.N) (ij H)
 clear H;intro x1 hi;subst o1;have H:=Hr1;clear Hr1;try dsimp only at H
 try dsimp only
 revert H;refine bs fun o2 H Hr2=>?_
 refine aS (ι:=List AT × Value) (fun i=>o2=Sum.inl i.1) (fun i=>[(4,fEq (ptr b2)),(6,fEq (ptr b3))]) (fun i=>[aA b3 71 [fI a0.Op,fI x1,fEq i.2],aA b2 71 [fI 0,fI 0,fEq (.slice none 0 0)],aA b1 71 [fI a0.Op,fI a0.N,dK a0.AO],aD i.2 71 aN i.1]) ?_ ?_
 refine Z2 ?_
 refine Yo 2 rfl (eQ rfl hh (sc rfl) rfl (jI iB)) ?_
 refine Z4 ?_
 refine gM aN 71 ?_
 refine aH [1,2,3,0] (by decide) ?_
 refine Tl (ι:=Nat × Int × List AT × Value) (fun i=>lE (jY AA) a0 a1 x1 i.1 i.2.1 i.2.2.1=_) (fun i=>i.1) (fun i=>[(1,fSl tI a1),(4,fEq (ptr b2)),(6,fEq (ptr b3)),(37,fSl aN a0.AO),(38,fI (a0.AO.length:Int)),(39,fI i.2.1)]) (fun i=>[aA b3 71 [fI a0.Op,fI x1,fEq i.2.2.2],aA b2 71 [fI 0,fI 0,fEq (.slice none 0 0)],aA b1 71 [fI a0.Op,fI a0.N,dK a0.AO],aD i.2.2.2 71 aN i.2.2.1]) (AA,0,[],(.slice none 0 0)) H ?_
 clear H;rintro⟨k1,x5,x6,v3⟩ H
 replace H:lE (jY AA) a0 a1 x1 k1 x5 x6=_:=H
 try dsimp only
 obtain _ | k1:=k1
 rw [lE]at H;cases H
 rw [lE]at H
 refine aF 3 rfl (fun hc_v3=>?_)
 refine Z3 ?_
 refine aJ ?_
 revert H;refine is (fun c4 H=>?_) fun c4 H=>?_
 refine Z3 ?_
 refine aJ ?_
 revert H;refine B2 fun y2 h2 H=>?_
 refine Z2 ?_
 refine Tn (bG rfl hO rfl) fun b4=>?_
 refine bZ (φs':=[fI y2.Op,fI y2.N,dK y2.AO]) a2e rfl rfl (has rfl) (has rfl) (aC (aI a2e) (aC (aI a2e) (aC (kP) bD))) (sz rfl) rfl rfl rfl ?_
 revert H;refine B4 fun y3 h3 H=>?_
 refine Tc (ih_flat_exp _ _ _ h3) ?_
 refine Z3 ?_
 refine Tn (bG rfl hO rfl) fun b5=>?_
 refine bZ (φs':=[fI y3.1.Op,fI y3.1.N,dK y3.1.AO]) a2e rfl rfl (has rfl) (has rfl) (aC (aI a2e) (aC (aI a2e) (aC (kP) bD))) (sz rfl) rfl rfl rfl ?_
 refine Z2 ?_
 refine aJ ?_
 refine Z4 ?_
 revert H;refine cs (fun c5 H=>?_) fun c5 H=>?_
 refine Z7 ?_
 refine Tn (fN (t:=aN) (xs:=[(⟨y3.1.Op,y3.1.N,y3.1.AO⟩:AT)]) rfl (et rfl) (cI.cons rfl hh cB cI.nil) rfl rfl rfl) fun b6=>?_
 generalize (Value.slice (some ⟨b6,0,none⟩) _ _)=v4
 refine aF 0 rfl (fun hc_v4=>?_)
 revert H;refine bs fun z1 h4 H=>?_
 refine dA ?_
 refine cL ?_
 refine jE a2e rfl rfl rfl (has rfl) (has rfl) (et rfl) rfl h4 (fun v5=>?_)
 refine aF 0 rfl (fun hc_v5=>?_)
 refine Z1 ?_
 refine eM ?_
 refine dN (φs':=[fI a0.Op,fI x1,fEq v5]) a2e rfl rfl (has rfl) (has rfl) (aI hc_v5) (sz rfl) rfl rfl ?_
 revert H;refine B4 fun z2 h5 H=>?_
 refine Z3 ?_
 refine aH [0,4,5,1] (by decide) ?_
 exact Tm ((k1,z2,z1,v5)) ⟨H,ls⟩
 refine Z3 ?_
 refine eM ?_
 refine bZ (φs':=[fI a0.Op,fI x1,fEq v3]) a2e rfl rfl (has rfl) (has rfl) (aC (aI a2e) (aC (aI a2e) (aC (aI hc_v3) bD))) (sz rfl) rfl rfl rfl ?_
 revert H;refine B8 fun r3 H e3=>?_
 cases e3;cases Hr2
 refine cO ?_
 refine cF (φ:=fSl aN x6) (v:=v3) [] dC (fun _ h=>nomatch h) ?_
 refine dD ?_
 refine cL ?_
 refine fJ (φs':=[fI a0.Op,fI x1,fSl aN x6]) (i:=2) rfl rfl ?_
 refine dT ?_
 refine cL ?_
 refine fJ (φs':=[fI a0.Op,fI x1,fSl aN x6]) (i:=2) rfl rfl ?_
 refine pY 51 (ψ:=dV [fI a0.Op,fI x1,fEq v3]) rfl (pC (i:=2) (φs:=[fI a0.Op,fI x1,fEq v3]) (φs':=[fI a0.Op,fI x1,fSl aN x6]) rfl rfl) ?_
 refine cE ?_
 cases H
 refine aH [0] (by decide) ?_
 exact pG rfl (ag rfl) rfl (bS rfl) (bS rfl) (qS (aO.cons Ent.rfl (aO.cons Ent.rfl (aO.cons (yG .rfl) aO.nil)))) rfl
 refine Z6 ?_
 exact Tm ((x6,v3)) (ij H)
 clear H;intro i hi;obtain⟨x2,v1⟩:=i;subst o2;have H:=Hr2;clear Hr2;try dsimp only at H
 try dsimp only
 refine aF 3 rfl (fun hc_v1=>?_)
 refine Z2 ?_
 refine cL ?_
 refine bZ (φs':=[fI a0.Op,fI x1,fEq v1]) a2e rfl rfl (has rfl) (has rfl) (aC (aI a2e) (aC (aI a2e) (aC (aI hc_v1) bD))) (sz rfl) rfl rfl rfl ?_
 refine Z3 ?_
 refine eM ?_
 refine cF (φ:=fSl aN x2) (v:=v1) [] dC (fun _ h=>nomatch h) ?_
 refine dT ?_
 refine cL ?_
 refine fJ (φs':=[fI a0.Op,fI x1,fSl aN x2]) (i:=2) rfl rfl ?_
 refine dT ?_
 refine cL ?_
 refine fJ (φs':=[fI a0.Op,fI x1,fSl aN x2]) (i:=2) rfl rfl ?_
 refine pY 59 (ψ:=dV [fI a0.Op,fI x1,fEq v1]) rfl (pC (i:=2) (φs:=[fI a0.Op,fI x1,fEq v1]) (φs':=[fI a0.Op,fI x1,fSl aN x2]) rfl rfl) ?_
 refine cE ?_
 cases H
 refine aH [0] (by decide) ?_
 exact pG rfl (ag rfl) rfl (bS rfl) (bS rfl) (qS (aO.cons Ent.rfl (aO.cons Ent.rfl (aO.cons (yG .rfl) aO.nil)))) rfl
open Go.SX Go.SW Go.Dt
def lD (AA:Nat) (a0:Af) (a1:Int) (a2:List Int) (y4:Ah) (y8:List Int):Nat->Int->(List AT)->Option ((List AT) ⊕ (Af × Bool))
| 0,_,_=>none
| k+1,x8,x9=>
 if x8<(y4.AW.length:Int)then
  (idx y4.AW x8).bind fun y13=>
  (jY AA (⟨y13.Op,y13.N,y13.AO⟩:AT) a2).bind fun y14=>
  bif y14.2 then
   (cQ (x9++[(⟨y14.1.Op,y14.1.N,y14.1.AO⟩:AT)])).bind fun z1=>
   (chk (x8+1)).bind fun z2=>
   lD AA a0 a1 a2 y4 y8 k z2 z1
  else
   (some ((⟨(⟨a0.AE.AH,a0.AE.AM,a0.AE.AD,a0.AE.AF,a0.AE.AG⟩:AE),a0.Aa.set a1.toNat a2,a0.AZ.set a1.toNat y8,a0.AX.set a1.toNat true,(⟨a0.AK.AH,a0.AK.AD,a0.AK.AF,a0.AK.AG⟩:AI)⟩:Af),false)).bind fun r=>some (Sum.inr r)
 else
  some (Sum.inl x9)
def mC (AA:Nat) (rec_flat_view_node:Af->Int->(List Int)->Int->Option (Af × Bool)) (y2:AN) (z2:Int) (y5:List Int):Nat->Int->(List ByteArray)->(List Int)->(List Ah)->(List AN)->Int->(List (List Int))->(List (List Int))->(List Bool)->(List ByteArray)->(List AV)->(List AN)->Int->Option ((List ByteArray × List Int × List Ah × List AN × Int × List (List Int) × List (List Int) × List Bool × List ByteArray × List AV × List AN × Int) ⊕ (Af × Bool))
| 0,_,_,_,_,_,_,_,_,_,_,_,_,_=>none
| k+1,x26,x27,x28,x29,x30,x31,x32,x33,x34,x35,x36,x37,x38=>
 if x26<(y2.AP.length:Int)then
  (idx y2.AP x26).bind fun y6=>
  (mM AA (⟨y2.AQ,y2.AS,y2.AP⟩:AN) (⟨y6.At,y6.Ab,y6.AU⟩:Ai)).bind fun y7=>
  if y7<0 then
   (some ((⟨(⟨x27,x28,x29,x30,x31⟩:AE),x32,x33,x34,(⟨x35,x36,x37,x38⟩:AI)⟩:Af),false)).bind fun r=>some (Sum.inr r)
  else
   (pP AA z2 y7).bind fun y8=>
   (lL y5 y8).bind fun y9=>
   (chk (z2+y7)).bind fun z3=>
   (rec_flat_view_node (⟨(⟨x27,x28,x29,x30,x31⟩:AE),x32,x33,x34,(⟨x35,x36,x37,x38⟩:AI)⟩:Af) y6.AU y9 z3).bind fun y10=>
   bif y10.2 then
    (chk (x26+1)).bind fun z4=>
    mC AA rec_flat_view_node y2 z2 y5 k z4 y10.1.AE.AH y10.1.AE.AM y10.1.AE.AD y10.1.AE.AF y10.1.AE.AG y10.1.Aa y10.1.AZ y10.1.AX y10.1.AK.AH y10.1.AK.AD y10.1.AK.AF y10.1.AK.AG
   else
    (some ((⟨(⟨y10.1.AE.AH,y10.1.AE.AM,y10.1.AE.AD,y10.1.AE.AF,y10.1.AE.AG⟩:AE),y10.1.Aa,y10.1.AZ,y10.1.AX,(⟨y10.1.AK.AH,y10.1.AK.AD,y10.1.AK.AF,y10.1.AK.AG⟩:AI)⟩:Af),false)).bind fun r=>some (Sum.inr r)
 else
  some (Sum.inl (x27,x28,x29,x30,x31,x32,x33,x34,x35,x36,x37,x38))
def lY (rec_flat_view_node:Af->Int->(List Int)->Int->Option (Af × Bool)) (y2:AN) (z2:Int) (y5:List Int):Nat->Int->(List ByteArray)->(List Int)->(List Ah)->(List AN)->Int->(List (List Int))->(List (List Int))->(List Bool)->(List ByteArray)->(List AV)->(List AN)->Int->Option ((List ByteArray × List Int × List Ah × List AN × Int × List (List Int) × List (List Int) × List Bool × List ByteArray × List AV × List AN × Int) ⊕ (Af × Bool))
| 0,_,_,_,_,_,_,_,_,_,_,_,_,_=>none
| k+1,x64,x65,x66,x67,x68,x69,x70,x71,x72,x73,x74,x75,x76=>
 if x64<(y2.AS.length:Int)then
  (idx y2.AS x64).bind fun y11=>
  (rec_flat_view_node (⟨(⟨x65,x66,x67,x68,x69⟩:AE),x70,x71,x72,(⟨x73,x74,x75,x76⟩:AI)⟩:Af) y11.AU y5 z2).bind fun y12=>
  bif y12.2 then
   (chk (x64+1)).bind fun z5=>
   lY rec_flat_view_node y2 z2 y5 k z5 y12.1.AE.AH y12.1.AE.AM y12.1.AE.AD y12.1.AE.AF y12.1.AE.AG y12.1.Aa y12.1.AZ y12.1.AX y12.1.AK.AH y12.1.AK.AD y12.1.AK.AF y12.1.AK.AG
  else
   (some ((⟨(⟨y12.1.AE.AH,y12.1.AE.AM,y12.1.AE.AD,y12.1.AE.AF,y12.1.AE.AG⟩:AE),y12.1.Aa,y12.1.AZ,y12.1.AX,(⟨y12.1.AK.AH,y12.1.AK.AD,y12.1.AK.AF,y12.1.AK.AG⟩:AI)⟩:Af),false)).bind fun r=>some (Sum.inr r)
 else
  some (Sum.inl (x65,x66,x67,x68,x69,x70,x71,x72,x73,x74,x75,x76))
def mH (rec_flat_view_node:Af->Int->(List Int)->Int->Option (Af × Bool)) (a1:List Int) (a2:List Int) (a3:Int):Nat->Int->(List ByteArray)->(List Int)->(List Ah)->(List AN)->Int->(List (List Int))->(List (List Int))->(List Bool)->(List ByteArray)->(List AV)->(List AN)->Int->Option ((List ByteArray × List Int × List Ah × List AN × Int × List (List Int) × List (List Int) × List Bool × List ByteArray × List AV × List AN × Int) ⊕ (Af × Bool))
| 0,_,_,_,_,_,_,_,_,_,_,_,_,_=>none
| k+1,x26,x27,x28,x29,x30,x31,x32,x33,x34,x35,x36,x37,x38=>
 if x26<(a1.length:Int)then
  (idx a1 x26).bind fun y1=>
  (rec_flat_view_node (⟨(⟨x27,x28,x29,x30,x31⟩:AE),x32,x33,x34,(⟨x35,x36,x37,x38⟩:AI)⟩:Af) y1 a2 a3).bind fun y2=>
  bif y2.2 then
   (chk (x26+1)).bind fun z1=>
   mH rec_flat_view_node a1 a2 a3 k z1 y2.1.AE.AH y2.1.AE.AM y2.1.AE.AD y2.1.AE.AF y2.1.AE.AG y2.1.Aa y2.1.AZ y2.1.AX y2.1.AK.AH y2.1.AK.AD y2.1.AK.AF y2.1.AK.AG
  else
   (some ((⟨(⟨y2.1.AE.AH,y2.1.AE.AM,y2.1.AE.AD,y2.1.AE.AF,y2.1.AE.AG⟩:AE),y2.1.Aa,y2.1.AZ,y2.1.AX,(⟨y2.1.AK.AH,y2.1.AK.AD,y2.1.AK.AF,y2.1.AK.AG⟩:AI)⟩:Af),false)).bind fun r=>some (Sum.inr r)
 else
  some (Sum.inl (x27,x28,x29,x30,x31,x32,x33,x34,x35,x36,x37,x38))
mutual
def dQ:Nat->Af->Int->(List Int)->Int->Option (Af × Bool)
| 0,_,_,_,_=>none
| AA+1,a0,a1,a2,a3=>
 if a1<0 then
  some ((⟨(⟨a0.AE.AH,a0.AE.AM,a0.AE.AD,a0.AE.AF,a0.AE.AG⟩:AE),a0.Aa,a0.AZ,a0.AX,(⟨a0.AK.AH,a0.AK.AD,a0.AK.AF,a0.AK.AG⟩:AI)⟩:Af),false)
 else
  if (a0.AE.AD.length:Int)<=a1 then
   some ((⟨(⟨a0.AE.AH,a0.AE.AM,a0.AE.AD,a0.AE.AF,a0.AE.AG⟩:AE),a0.Aa,a0.AZ,a0.AX,(⟨a0.AK.AH,a0.AK.AD,a0.AK.AF,a0.AK.AG⟩:AI)⟩:Af),false)
  else
   (idx a0.AX a1).bind fun y1=>
   bif y1 then
    some ((⟨(⟨a0.AE.AH,a0.AE.AM,a0.AE.AD,a0.AE.AF,a0.AE.AG⟩:AE),a0.Aa,a0.AZ,a0.AX,(⟨a0.AK.AH,a0.AK.AD,a0.AK.AF,a0.AK.AG⟩:AI)⟩:Af),false)
   else
    (idx a0.AX a1).bind fun y2=>
    (idx a0.Aa a1).bind fun y3=>
    (idx a0.AE.AD a1).bind fun y4=>
    ((pF y4.Op).bind fun y5=>
    bif !y5 then
     if 0<(y4.AM.length:Int)then
      (some ((⟨(⟨a0.AE.AH,a0.AE.AM,a0.AE.AD,a0.AE.AF,a0.AE.AG⟩:AE),a0.Aa.set a1.toNat a2,a0.AZ,a0.AX.set a1.toNat true,(⟨a0.AK.AH,a0.AK.AD,a0.AK.AF,a0.AK.AG⟩:AI)⟩:Af),false)).bind fun r=>some (Sum.inr r)
     else
      (rI AA y4.AM (a2.length:Int)).bind fun y6=>
      bif y6 then
       some (Sum.inl ())
      else
       (some ((⟨(⟨a0.AE.AH,a0.AE.AM,a0.AE.AD,a0.AE.AF,a0.AE.AG⟩:AE),a0.Aa.set a1.toNat a2,a0.AZ,a0.AX.set a1.toNat true,(⟨a0.AK.AH,a0.AK.AD,a0.AK.AF,a0.AK.AG⟩:AI)⟩:Af),false)).bind fun r=>some (Sum.inr r)
    else
     (rI AA y4.AM (a2.length:Int)).bind fun y7=>
     bif y7 then
      some (Sum.inl ())
     else
      (some ((⟨(⟨a0.AE.AH,a0.AE.AM,a0.AE.AD,a0.AE.AF,a0.AE.AG⟩:AE),a0.Aa.set a1.toNat a2,a0.AZ,a0.AX.set a1.toNat true,(⟨a0.AK.AH,a0.AK.AD,a0.AK.AF,a0.AK.AG⟩:AI)⟩:Af),false)).bind fun r=>some (Sum.inr r)).bind fun o=>match o with
    | Sum.inr r=>some r
    | Sum.inl _=>
    (uK AA a2 y4.AM).bind fun y8=>
    (idx a0.AZ a1).bind fun y9=>
    (fC y4.AO).bind fun y10=>
    ((if y4.Op=6 then
     some (decide (y4.Op=6))
    else
     some (decide (y4.Op=8))).bind fun x2=>
    bif x2 then
     (idx (a0.AZ.set a1.toNat y8) a1).bind fun y11=>
     some y11
    else
     some a2).bind fun x1=>
    ((if y4.Op=2 then
     some (decide (y4.Op=2))
    else
     if y4.Op=6 then
      some (decide (y4.Op=6))
     else
      some (decide (y4.Op=8))).bind fun x4=>
    bif x4 then
     if y4.N<0 then
      (some ((⟨(⟨a0.AE.AH,a0.AE.AM,a0.AE.AD,a0.AE.AF,a0.AE.AG⟩:AE),a0.Aa.set a1.toNat a2,a0.AZ.set a1.toNat y8,a0.AX.set a1.toNat true,(⟨a0.AK.AH,a0.AK.AD,a0.AK.AF,a0.AK.AG⟩:AI)⟩:Af),false)).bind fun r=>some (Sum.inr r)
     else
      if (x1.length:Int)<=y4.N then
       (some ((⟨(⟨a0.AE.AH,a0.AE.AM,a0.AE.AD,a0.AE.AF,a0.AE.AG⟩:AE),a0.Aa.set a1.toNat a2,a0.AZ.set a1.toNat y8,a0.AX.set a1.toNat true,(⟨a0.AK.AH,a0.AK.AD,a0.AK.AF,a0.AK.AG⟩:AI)⟩:Af),false)).bind fun r=>some (Sum.inr r)
      else
       (idx x1 y4.N).bind fun y12=>
       some (Sum.inl y12)
    else
     some (Sum.inl y4.N)).bind fun o=>match o with
    | Sum.inr r=>some r
    | Sum.inl x3=>
    (lD AA a0 a1 a2 y4 y8 AA 0 []).bind fun o=>match o with
    | Sum.inr r=>some r
    | Sum.inl x5=>
    (idx a0.AK.AD a1).bind fun y15=>
    if y4.Op=4 then
     ((qJ AA) (⟨(⟨a0.AE.AH,a0.AE.AM,a0.AE.AD,a0.AE.AF,a0.AE.AG⟩:AE),a0.Aa.set a1.toNat a2,a0.AZ.set a1.toNat y8,a0.AX.set a1.toNat true,(⟨a0.AK.AH,a0.AK.AD.set a1.toNat (⟨y4.Op,x3,x5,y10⟩:AV),a0.AK.AF,a0.AK.AG⟩:AI)⟩:Af) a1 a2 a3).bind fun y16=>
     some ((⟨(⟨y16.1.AE.AH,y16.1.AE.AM,y16.1.AE.AD,y16.1.AE.AF,y16.1.AE.AG⟩:AE),y16.1.Aa,y16.1.AZ,y16.1.AX,(⟨y16.1.AK.AH,y16.1.AK.AD,y16.1.AK.AF,y16.1.AK.AG⟩:AI)⟩:Af),y16.2)
    else
     ((kX AA) (⟨(⟨a0.AE.AH,a0.AE.AM,a0.AE.AD,a0.AE.AF,a0.AE.AG⟩:AE),a0.Aa.set a1.toNat a2,a0.AZ.set a1.toNat y8,a0.AX.set a1.toNat true,(⟨a0.AK.AH,a0.AK.AD.set a1.toNat (⟨y4.Op,x3,x5,y10⟩:AV),a0.AK.AF,a0.AK.AG⟩:AI)⟩:Af) y4.AO x1 a3).bind fun y17=>
     some ((⟨(⟨y17.1.AE.AH,y17.1.AE.AM,y17.1.AE.AD,y17.1.AE.AF,y17.1.AE.AG⟩:AE),y17.1.Aa,y17.1.AZ,y17.1.AX,(⟨y17.1.AK.AH,y17.1.AK.AD,y17.1.AK.AF,y17.1.AK.AG⟩:AI)⟩:Af),y17.2)
def qJ:Nat->Af->Int->(List Int)->Int->Option (Af × Bool)
| 0,_,_,_,_=>none
| AA+1,a0,a1,a2,a3=>
 (idx a0.AE.AD a1).bind fun y1=>
 if y1.N<0 then
  some ((⟨(⟨a0.AE.AH,a0.AE.AM,a0.AE.AD,a0.AE.AF,a0.AE.AG⟩:AE),a0.Aa,a0.AZ,a0.AX,(⟨a0.AK.AH,a0.AK.AD,a0.AK.AF,a0.AK.AG⟩:AI)⟩:Af),false)
 else
  if (a0.AE.AF.length:Int)<=y1.N then
   some ((⟨(⟨a0.AE.AH,a0.AE.AM,a0.AE.AD,a0.AE.AF,a0.AE.AG⟩:AE),a0.Aa,a0.AZ,a0.AX,(⟨a0.AK.AH,a0.AK.AD,a0.AK.AF,a0.AK.AG⟩:AI)⟩:Af),false)
  else
   (idx a0.AE.AF y1.N).bind fun y2=>
   (chk ((y2.AQ.length:Int)+(y2.AS.length:Int))).bind fun z1=>
   (pP AA a3 z1).bind fun y3=>
   (chk (a3+(y3.length:Int))).bind fun z2=>
   (idx a0.AZ a1).bind fun y4=>
   (lL y4 y3).bind fun y5=>
   (mC AA (dQ AA) y2 z2 y5 AA 0 a0.AE.AH a0.AE.AM a0.AE.AD a0.AE.AF a0.AE.AG a0.Aa a0.AZ a0.AX a0.AK.AH a0.AK.AD a0.AK.AF a0.AK.AG).bind fun o=>match o with
   | Sum.inr r=>some r
   | Sum.inl (x1,x2,x3,x4,x5,x6,x7,x8,x9,x10,x11,x12)=>
   (lY (dQ AA) y2 z2 y5 AA 0 x1 x2 x3 x4 x5 x6 x7 x8 x9 x10 x11 x12).bind fun o=>match o with
   | Sum.inr r=>some r
   | Sum.inl (x39,x40,x41,x42,x43,x44,x45,x46,x47,x48,x49,x50)=>
   (lL a2 y3).bind fun y13=>
   ((kX AA) (⟨(⟨x39,x40,x41,x42,x43⟩:AE),x44,x45,x46,(⟨x47,x48,x49,x50⟩:AI)⟩:Af) y1.AO y13 z2).bind fun y14=>
   some ((⟨(⟨y14.1.AE.AH,y14.1.AE.AM,y14.1.AE.AD,y14.1.AE.AF,y14.1.AE.AG⟩:AE),y14.1.Aa,y14.1.AZ,y14.1.AX,(⟨y14.1.AK.AH,y14.1.AK.AD,y14.1.AK.AF,y14.1.AK.AG⟩:AI)⟩:Af),y14.2)
def kX:Nat->Af->(List Int)->(List Int)->Int->Option (Af × Bool)
| 0,_,_,_,_=>none
| AA+1,a0,a1,a2,a3=>
 (mH (dQ AA) a1 a2 a3 AA 0 a0.AE.AH a0.AE.AM a0.AE.AD a0.AE.AF a0.AE.AG a0.Aa a0.AZ a0.AX a0.AK.AH a0.AK.AD a0.AK.AF a0.AK.AG).bind fun o=>match o with
 | Sum.inr r=>some r
 | Sum.inl (x1,x2,x3,x4,x5,x6,x7,x8,x9,x10,x11,x12)=>
 some ((⟨(⟨x1,x2,x3,x4,x5⟩:AE),x6,x7,x8,(⟨x9,x10,x11,x12⟩:AI)⟩:Af),true)
end
theorem aIB:∀ (AA:Nat),(∀ (p0:Nat) (a0:Af) (a1:Int) (a2:List Int) (a3:Int) (r:Af × Bool) (H:dQ AA a0 a1 a2 a3=some r),FnS Tryz.prog 77 [fEq (.pointer (some ⟨p0,0,none⟩)),fI a1,fSl tI a2,fI a3] [lB p0 a0] (aR r.2) (fun _=>[lB p0 r.1]))/\(∀ (p0:Nat) (a0:Af) (a1:Int) (a2:List Int) (a3:Int) (r:Af × Bool) (H:qJ AA a0 a1 a2 a3=some r),FnS Tryz.prog 108 [fEq (.pointer (some ⟨p0,0,none⟩)),fI a1,fSl tI a2,fI a3] [lB p0 a0] (aR r.2) (fun _=>[lB p0 r.1]))/\(∀ (p0:Nat) (a0:Af) (a1:List Int) (a2:List Int) (a3:Int) (r:Af × Bool) (H:kX AA a0 a1 a2 a3=some r),FnS Tryz.prog 109 [fEq (.pointer (some ⟨p0,0,none⟩)),fSl tI a1,fSl tI a2,fI a3] [lB p0 a0] (aR r.2) (fun _=>[lB p0 r.1])):=by
 intro AA
 induction AA with
 | zero=>exact⟨fun p0 a0 a1 a2 a3 r H=>(by rw [dQ]at H;cases H),fun p0 a0 a1 a2 a3 r H=>(by rw [qJ]at H;cases H),fun p0 a0 a1 a2 a3 r H=>(by rw [kX]at H;cases H)⟩
 | succ AA ih=>
 obtain⟨ih_flat_view_node,ih_flat_view_def,ih_flat_view_kids⟩:=@ih
 refine⟨?_,?_,?_⟩
 intro p0 a0 a1 a2 a3 r H
 rw [dQ]at H
 refine bL Tryz.func77 rfl Tryz.ntmps77 rfl (fun β=>?_)
 refine mG (fun v1 v2 v3 v4=>?_)
 refine aF 1 rfl (fun hc_v1=>?_)
 refine aF 2 rfl (fun hc_v2=>?_)
 refine aF 3 rfl (fun hc_v3=>?_)
 refine aF 4 rfl (fun hc_v4=>?_)
 refine Z3 ?_
 refine aJ ?_
 revert H;refine I4 (fun c1 H=>?_) fun c1 H=>?_
 refine Z12 ?_
 refine Z12 ?_
 refine eG (x:=(⟨(⟨a0.AE.AH,a0.AE.AM,a0.AE.AD,a0.AE.AF,a0.AE.AG⟩:AE),a0.Aa,a0.AZ,a0.AX,(⟨a0.AK.AH,a0.AK.AD,a0.AK.AF,a0.AK.AG⟩:AI)⟩:Af)) ?_
 cases H
 exact To
 revert H;refine I10 (fun c2 H=>?_) fun c2 H=>?_
 refine Z12 ?_
 refine Z2 ?_
 refine eG (x:=(⟨(⟨a0.AE.AH,a0.AE.AM,a0.AE.AD,a0.AE.AF,a0.AE.AG⟩:AE),a0.Aa,a0.AZ,a0.AX,(⟨a0.AK.AH,a0.AK.AD,a0.AK.AF,a0.AK.AG⟩:AI)⟩:Af)) ?_
 cases H
 exact To
 revert H;refine B5 fun y1 h1 H=>?_
 refine Z1 ?_
 refine Yh 3 rfl c2 (zQ rfl rfl hh (sc rfl) (gD h1) rfl) ?_
 refine Z2 ?_
 revert H;refine cs (fun c3 H=>?_) fun c3 H=>?_
 refine Z5 ?_
 refine eG (x:=(⟨(⟨a0.AE.AH,a0.AE.AM,a0.AE.AD,a0.AE.AF,a0.AE.AG⟩:AE),a0.Aa,a0.AZ,a0.AX,(⟨a0.AK.AH,a0.AK.AD,a0.AK.AF,a0.AK.AG⟩:AI)⟩:Af)) ?_
 cases H
 exact To
 refine Z3 ?_
 refine aJ ?_
 revert H;refine bs fun y2 h2 H=>?_
 revert H;refine bs fun y3 h3 H=>?_
 apply bW (ods:=[_,_,_,_,_,_,_,_,_,_,_,_,_,_,_]) 15 0 5 bV rfl rfl rfl
 refine ND ?_
 refine M8 ?_
 intros
 refine M4 ?_
 intros
 refine tL (od:=odC [3] true (fB) [aD v3 4 bE (a0.AX.set a1.toNat true)]) (p:=3) (z':=true) rfl (fun _=>rfl) (fun _=>rfl) a2e rfl rfl rfl rfl (has rfl) (has rfl) (aI a2e) (sz rfl) (gD h2) rfl rfl (fun _=>?_)
 refine M1 ?_
 intros
 refine tL (od:=odC [1] true (fB) [aD v1 27 (tSl tI) (a0.Aa.set a1.toNat a2)]) (p:=1) (z':=a2) rfl (fun _=>rfl) (fun _=>rfl) a2e rfl rfl rfl rfl (has rfl) (has rfl) (aP) (sz rfl) (gD h3) rfl rfl (fun _=>?_)
 revert H;refine B9 fun y4 h4 H=>?_
 refine Z2 ?_
 refine Tn (bG rfl zD rfl) fun b1=>?_
 refine bZ (φs':=[fI y4.Op,fI y4.N,fSl aN y4.AW,fSl tI y4.AO,fSl tI y4.AM]) a2e rfl rfl (has rfl) (has rfl) (aC (aI a2e) (aC (aI a2e) (aC (aP) (aC (aP) (aC (aP) bD))))) (sz rfl) rfl rfl rfl ?_
 revert H;refine B1 fun o1 H Hr1=>?_
 refine aS (ι:=Unit) (fun i=>o1=Sum.inl ()) (fun i=>[(0,fEq (ptr p0)),(1,fI a1),(2,fSl tI a2),(3,fI a3),(9,fEq (ptr b1))]) (fun i=>[aA b1 54 [fI y4.Op,fI y4.N,fSl aN y4.AW,fSl tI y4.AO,fSl tI y4.AM],aA p0 113 [fSl aL a0.AE.AH,fSl tI a0.AE.AM,fSl bH a0.AE.AD,fSl aE a0.AE.AF,fI a0.AE.AG,fEq v1,fEq v2,fEq v3,fSl aL a0.AK.AH,fEq v4,fSl aE a0.AK.AF,fI a0.AK.AG],aD v1 27 (tSl tI) (a0.Aa.set a1.toNat a2),aD v2 27 (tSl tI) a0.AZ,aD v3 4 bE (a0.AX.set a1.toNat true),aD v4 65 aY a0.AK.AD]) ?_ ?_
 revert H;refine B3 fun y5 h5 H=>?_
 refine Tc (aDH _ _ h5) ?_
 refine Z2 ?_
 revert H;refine cs (fun c4 H=>?_) fun c4 H=>?_
 revert H;refine I6 (fun c5 H=>?_) fun c5 H=>?_
 refine Z12 ?_
 revert H;refine B1 fun r1 H e1=>?_
 cases e1;cases Hr1
 refine cO ?_
 refine cO ?_
 refine cO ?_
 refine cO ?_
 refine cO ?_
 refine eG (x:=(⟨(⟨a0.AE.AH,a0.AE.AM,a0.AE.AD,a0.AE.AF,a0.AE.AG⟩:AE),a0.Aa.set a1.toNat a2,a0.AZ,a0.AX.set a1.toNat true,(⟨a0.AK.AH,a0.AK.AD,a0.AK.AF,a0.AK.AG⟩:AI)⟩:Af)) ?_
 cases H
 refine aH [0] (by decide) ?_
 exact To
 revert H;refine B4 fun y6 h6 H=>?_
 refine Tc (aDN _ _ _ _ h6) ?_
 refine Z3 ?_
 revert H;refine cs (fun c6 H=>?_) fun c6 H=>?_
 refine Z3 ?_
 exact Tm (()) (ij H)
 revert H;refine B5 fun r2 H e2=>?_
 cases e2;cases Hr1
 refine cO ?_
 refine cO ?_
 refine cO ?_
 refine cO ?_
 refine cO ?_
 refine eG (x:=(⟨(⟨a0.AE.AH,a0.AE.AM,a0.AE.AD,a0.AE.AF,a0.AE.AG⟩:AE),a0.Aa.set a1.toNat a2,a0.AZ,a0.AX.set a1.toNat true,(⟨a0.AK.AH,a0.AK.AD,a0.AK.AF,a0.AK.AG⟩:AI)⟩:Af)) ?_
 cases H
 refine aH [0] (by decide) ?_
 exact To
 revert H;refine B10 fun y7 h7 H=>?_
 refine Tc (aDN _ _ _ _ h7) ?_
 refine Z3 ?_
 revert H;refine cs (fun c7 H=>?_) fun c7 H=>?_
 refine Z3 ?_
 exact Tm (()) (ij H)
 revert H;refine B5 fun r3 H e3=>?_
 cases e3;cases Hr1
 refine cO ?_
 refine cO ?_
 refine cO ?_
 refine cO ?_
 refine cO ?_
 refine eG (x:=(⟨(⟨a0.AE.AH,a0.AE.AM,a0.AE.AD,a0.AE.AF,a0.AE.AG⟩:AE),a0.Aa.set a1.toNat a2,a0.AZ,a0.AX.set a1.toNat true,(⟨a0.AK.AH,a0.AK.AD,a0.AK.AF,a0.AK.AG⟩:AI)⟩:Af)) ?_
 cases H
 refine aH [0] (by decide) ?_
 exact To
 clear H;intro i hi;subst o1;have H:=Hr1;clear Hr1;try dsimp only at H
 try dsimp only
 refine aJ ?_
 revert H;refine bs fun y8 h8 H=>?_
 revert H;refine bs fun y9 h9 H=>?_
 apply bW (ods:=[_,_,_,_,_,_,_,_,_,_,_]) 11 0 6 bV rfl rfl rfl
 refine ND ?_
 refine M8 ?_
 intros
 refine Nc (aKf _ _ _ _ h8) fun _=>?_
 refine M1 ?_
 intros
 refine tL (od:=odC [3] true (fB) [aD v2 27 (tSl tI) (a0.AZ.set a1.toNat y8)]) (p:=3) (z':=y8) rfl (fun _=>rfl) (fun _=>rfl) a2e rfl rfl rfl rfl (has rfl) (has rfl) (aP) (sz rfl) (gD h9) rfl rfl (fun _=>?_)
 refine Z2 ?_
 refine aJ ?_
 revert H;refine bs fun y10 h10 H=>?_
 apply bW (ods:=[_,_,_,_,_,_,_,_,_,_]) 10 1 7 bV rfl rfl rfl
 refine ND ?_
 refine M6 ?_
 intros
 refine vH (od:=odC [] true (fSl tI y10) []) (Φ:=fSl tI y10) rfl (fun _=>rfl) a2e rfl rfl (has rfl) (aK.cons (has rfl) aK.nil) rfl (cb rfl) (rP y4.AO y10 h10) (fun _=>?_)
 refine My (fY (ψs:=[fI y4.Op,fI y4.N,fEq (.slice none 0 0),fSl tI y10]) rfl ty_bu_65 rfl (bJ.cons (has rfl) (cJ (aI a2e)) (bJ.cons (has rfl) (cJ (aI a2e)) (bJ.cons (has rfl) (cJ (aP)) bJ.nil))) rfl) fun _=>?_
 refine Mn 6 (fun b2=>ptr b2) (fun b2=>aA b2 65 [fI 0,fI 0,fEq (.slice none 0 0),fEq (.slice none 0 0)]) rfl (bG rfl sI rfl) (fun b2 u1=>?_)
 refine rX (od:=od1 8 [6] true (fun b2 _=>fB) (fun b2 _=>[aA b2 65 [fI y4.Op,fI y4.N,fEq (.slice none 0 0),fSl tI y10]])) (p:=6) (φs':=[fI y4.Op,fI y4.N,fEq (.slice none 0 0),fSl tI y10]) rfl (fun _=>rfl) (fun _=>rfl) a2e rfl rfl rfl (has rfl) (has rfl) (aC (aI a2e) (aC (aI a2e) (aC (aI a2e) (aC (aP) bD)))) (sz rfl) rfl rfl rfl (fun _=>?_)
 revert H;refine B6 fun o2 H Hr2=>?_
 refine aS (ι:=List Int) (fun i=>o2=i) (fun i=>[(0,fEq (ptr p0)),(1,fI a1),(2,fSl tI a2),(3,fI a3),(9,fEq (ptr b1)),(10,fEq (ptr b2)),(11,fSl tI i)]) (fun i=>[aA b1 54 [fI y4.Op,fI y4.N,fSl aN y4.AW,fSl tI y4.AO,fSl tI y4.AM],aA p0 113 [fSl aL a0.AE.AH,fSl tI a0.AE.AM,fSl bH a0.AE.AD,fSl aE a0.AE.AF,fI a0.AE.AG,fEq v1,fEq v2,fEq v3,fSl aL a0.AK.AH,fEq v4,fSl aE a0.AK.AF,fI a0.AK.AG],aA b2 65 [fI y4.Op,fI y4.N,fEq (.slice none 0 0),fSl tI y10],aD v1 27 (tSl tI) (a0.Aa.set a1.toNat a2),aD v2 27 (tSl tI) (a0.AZ.set a1.toNat y8),aD v3 4 bE (a0.AX.set a1.toNat true),aD v4 65 aY a0.AK.AD]) ?_ ?_
 revert H;refine B5 fun o3 H Hr3=>?_
 refine aS (ι:=Bool) (fun i=>o3=i) (fun i=>[(0,fEq (ptr p0)),(1,fI a1),(2,fSl tI a2),(3,fI a3),(9,fEq (ptr b1)),(10,fEq (ptr b2)),(11,fSl tI a2),(97,aR i)]) (fun i=>[aA b1 54 [fI y4.Op,fI y4.N,fSl aN y4.AW,fSl tI y4.AO,fSl tI y4.AM],aA p0 113 [fSl aL a0.AE.AH,fSl tI a0.AE.AM,fSl bH a0.AE.AD,fSl aE a0.AE.AF,fI a0.AE.AG,fEq v1,fEq v2,fEq v3,fSl aL a0.AK.AH,fEq v4,fSl aE a0.AK.AF,fI a0.AK.AG],aA b2 65 [fI y4.Op,fI y4.N,fEq (.slice none 0 0),fSl tI y10],aD v1 27 (tSl tI) (a0.Aa.set a1.toNat a2),aD v2 27 (tSl tI) (a0.AZ.set a1.toNat y8),aD v3 4 bE (a0.AX.set a1.toNat true),aD v4 65 aY a0.AK.AD]) ?_ ?_
 revert H;refine I4 (fun c8 H=>?_) fun c8 H=>?_
 refine Z3 ?_
 refine aH [0,1,6,2,3,4,5] (by decide) ?_
 exact Tm (decide (y4.Op=6)) (ij H)
 refine Z5 ?_
 refine aH [0,1,6,2,3,4,5] (by decide) ?_
 exact Tm (decide (y4.Op=8)) (ij H)
 clear H;intro x2 hi;subst o3;have H:=Hr3;clear Hr3;try dsimp only at H
 try dsimp only
 revert H;refine cs (fun c9 H=>?_) fun c9 H=>?_
 revert H;refine B7 fun y11 h11 H=>?_
 refine Z1 ?_
 refine Yo 4 rfl (zQ rfl rfl hh (sc rfl) (gD h11) rfl) ?_
 refine Z4 ?_
 exact Tm (y11) (ij H)
 refine Z4 ?_
 exact Tm (a2) (ij H)
 clear H;intro x1 hi;subst o2;have H:=Hr2;clear Hr2;try dsimp only at H
 try dsimp only
 revert H;refine bs fun o4 H Hr4=>?_
 refine aS (ι:=Int) (fun i=>o4=Sum.inl i) (fun i=>[(0,fEq (ptr p0)),(1,fI a1),(2,fSl tI a2),(3,fI a3),(9,fEq (ptr b1)),(10,fEq (ptr b2)),(11,fSl tI x1)]) (fun i=>[aA b2 65 [fI y4.Op,fI i,fEq (.slice none 0 0),fSl tI y10],aA b1 54 [fI y4.Op,fI y4.N,fSl aN y4.AW,fSl tI y4.AO,fSl tI y4.AM],aA p0 113 [fSl aL a0.AE.AH,fSl tI a0.AE.AM,fSl bH a0.AE.AD,fSl aE a0.AE.AF,fI a0.AE.AG,fEq v1,fEq v2,fEq v3,fSl aL a0.AK.AH,fEq v4,fSl aE a0.AK.AF,fI a0.AK.AG],aD v1 27 (tSl tI) (a0.Aa.set a1.toNat a2),aD v2 27 (tSl tI) (a0.AZ.set a1.toNat y8),aD v3 4 bE (a0.AX.set a1.toNat true),aD v4 65 aY a0.AK.AD]) ?_ ?_
 revert H;refine B5 fun o5 H Hr5=>?_
 refine aS (ι:=Bool) (fun i=>o5=i) (fun i=>[(0,fEq (ptr p0)),(1,fI a1),(2,fSl tI a2),(3,fI a3),(9,fEq (ptr b1)),(10,fEq (ptr b2)),(11,fSl tI x1),(109,aR i)]) (fun i=>[aA b1 54 [fI y4.Op,fI y4.N,fSl aN y4.AW,fSl tI y4.AO,fSl tI y4.AM],aA p0 113 [fSl aL a0.AE.AH,fSl tI a0.AE.AM,fSl bH a0.AE.AD,fSl aE a0.AE.AF,fI a0.AE.AG,fEq v1,fEq v2,fEq v3,fSl aL a0.AK.AH,fEq v4,fSl aE a0.AK.AF,fI a0.AK.AG],aA b2 65 [fI y4.Op,fI y4.N,fEq (.slice none 0 0),fSl tI y10],aD v1 27 (tSl tI) (a0.Aa.set a1.toNat a2),aD v2 27 (tSl tI) (a0.AZ.set a1.toNat y8),aD v3 4 bE (a0.AX.set a1.toNat true),aD v4 65 aY a0.AK.AD]) ?_ ?_
 revert H;refine I4 (fun c10 H=>?_) fun c10 H=>?_
 refine Z3 ?_
 exact Tm (decide (y4.Op=2)) (ij H)
 revert H;refine I5 (fun c11 H=>?_) fun c11 H=>?_
 refine Z3 ?_
 exact Tm (decide (y4.Op=6)) (ij H)
 refine Z5 ?_
 exact Tm (decide (y4.Op=8)) (ij H)
 clear H;intro x4 hi;subst o5;have H:=Hr5;clear Hr5;try dsimp only at H
 try dsimp only
 revert H;refine cs (fun c12 H=>?_) fun c12 H=>?_
 refine Z1 ?_
 refine aJ ?_
 revert H;refine I5 (fun c13 H=>?_) fun c13 H=>?_
 refine Z12 ?_
 revert H;refine B2 fun r4 H e4=>?_
 cases e4;cases Hr4
 refine dA ?_
 refine dA ?_
 refine dA ?_
 refine dA ?_
 refine cO ?_
 refine eG (x:=(⟨(⟨a0.AE.AH,a0.AE.AM,a0.AE.AD,a0.AE.AF,a0.AE.AG⟩:AE),a0.Aa.set a1.toNat a2,a0.AZ.set a1.toNat y8,a0.AX.set a1.toNat true,(⟨a0.AK.AH,a0.AK.AD,a0.AK.AF,a0.AK.AG⟩:AI)⟩:Af)) ?_
 cases H
 refine aH [0] (by decide) ?_
 exact To
 revert H;refine I7 (fun c14 H=>?_) fun c14 H=>?_
 revert H;refine B7 fun r5 H e5=>?_
 cases e5;cases Hr4
 refine dA ?_
 refine dA ?_
 refine dA ?_
 refine dA ?_
 refine cO ?_
 refine eG (x:=(⟨(⟨a0.AE.AH,a0.AE.AM,a0.AE.AD,a0.AE.AF,a0.AE.AG⟩:AE),a0.Aa.set a1.toNat a2,a0.AZ.set a1.toNat y8,a0.AX.set a1.toNat true,(⟨a0.AK.AH,a0.AK.AD,a0.AK.AF,a0.AK.AG⟩:AI)⟩:Af)) ?_
 cases H
 refine aH [0] (by decide) ?_
 exact To
 revert H;refine B7 fun y12 h12 H=>?_
 refine Z3 ?_
 refine dT ?_
 refine dN (φs':=[fI y4.Op,fI y12,fEq (.slice none 0 0),fSl tI y10]) a2e rfl rfl (has rfl) (has rfl) (aI a2e) (sz rfl) rfl rfl ?_
 refine Z3 ?_
 exact Tm (y12) (ij H)
 refine Z4 ?_
 refine aH [2,0,1,3,4,5,6] (by decide) ?_
 exact Tm (y4.N) (ij H)
 clear H;intro x3 hi;subst o4;have H:=Hr4;clear Hr4;try dsimp only at H
 try dsimp only
 revert H;refine bs fun o6 H Hr6=>?_
 refine aS (ι:=List AT × Value) (fun i=>o6=Sum.inl i.1) (fun i=>[(0,fEq (ptr p0)),(1,fI a1),(2,fSl tI a2),(3,fI a3),(9,fEq (ptr b1)),(10,fEq (ptr b2)),(11,fSl tI x1)]) (fun i=>[aA b2 65 [fI y4.Op,fI x3,fEq i.2,fSl tI y10],aA b1 54 [fI y4.Op,fI y4.N,fSl aN y4.AW,fSl tI y4.AO,fSl tI y4.AM],aA p0 113 [fSl aL a0.AE.AH,fSl tI a0.AE.AM,fSl bH a0.AE.AD,fSl aE a0.AE.AF,fI a0.AE.AG,fEq v1,fEq v2,fEq v3,fSl aL a0.AK.AH,fEq v4,fSl aE a0.AK.AF,fI a0.AK.AG],aD i.2 71 aN i.1,aD v1 27 (tSl tI) (a0.Aa.set a1.toNat a2),aD v2 27 (tSl tI) (a0.AZ.set a1.toNat y8),aD v3 4 bE (a0.AX.set a1.toNat true),aD v4 65 aY a0.AK.AD]) ?_ ?_
 refine Z7 ?_
 refine gM aN 71 ?_
 refine aH [1,2,3,0,4,5,6,7] (by decide) ?_
 refine Tl (ι:=Nat × Int × List AT × Value) (fun i=>lD AA a0 a1 a2 y4 y8 i.1 i.2.1 i.2.2.1=_) (fun i=>i.1) (fun i=>[(0,fEq (ptr p0)),(1,fI a1),(2,fSl tI a2),(3,fI a3),(9,fEq (ptr b1)),(10,fEq (ptr b2)),(11,fSl tI x1),(130,fSl aN y4.AW),(131,fI (y4.AW.length:Int)),(132,fI i.2.1)]) (fun i=>[aA b2 65 [fI y4.Op,fI x3,fEq i.2.2.2,fSl tI y10],aA b1 54 [fI y4.Op,fI y4.N,fSl aN y4.AW,fSl tI y4.AO,fSl tI y4.AM],aA p0 113 [fSl aL a0.AE.AH,fSl tI a0.AE.AM,fSl bH a0.AE.AD,fSl aE a0.AE.AF,fI a0.AE.AG,fEq v1,fEq v2,fEq v3,fSl aL a0.AK.AH,fEq v4,fSl aE a0.AK.AF,fI a0.AK.AG],aD i.2.2.2 71 aN i.2.2.1,aD v1 27 (tSl tI) (a0.Aa.set a1.toNat a2),aD v2 27 (tSl tI) (a0.AZ.set a1.toNat y8),aD v3 4 bE (a0.AX.set a1.toNat true),aD v4 65 aY a0.AK.AD]) (AA,0,[],(.slice none 0 0)) H ?_
 clear H;rintro⟨k1,x8,x9,v7⟩ H
 replace H:lD AA a0 a1 a2 y4 y8 k1 x8 x9=_:=H
 try dsimp only
 obtain _ | k1:=k1
 rw [lD]at H;cases H
 rw [lD]at H
 refine aF 3 rfl (fun hc_v7=>?_)
 refine Z3 ?_
 refine aJ ?_
 revert H;refine is (fun c15 H=>?_) fun c15 H=>?_
 refine Z3 ?_
 refine aJ ?_
 revert H;refine B2 fun y13 h13 H=>?_
 refine Z2 ?_
 refine Tn (bG rfl hO rfl) fun b3=>?_
 refine bZ (φs':=[fI y13.Op,fI y13.N,dK y13.AO]) a2e rfl rfl (has rfl) (has rfl) (aC (aI a2e) (aC (aI a2e) (aC (kP) bD))) (sz rfl) rfl rfl rfl ?_
 revert H;refine B4 fun y14 h14 H=>?_
 refine Tc (aJr _ _ _ _ h14) ?_
 refine Z3 ?_
 refine Tn (bG rfl hO rfl) fun b4=>?_
 refine bZ (φs':=[fI y14.1.Op,fI y14.1.N,dK y14.1.AO]) a2e rfl rfl (has rfl) (has rfl) (aC (aI a2e) (aC (aI a2e) (aC (kP) bD))) (sz rfl) rfl rfl rfl ?_
 refine Z2 ?_
 refine aJ ?_
 refine Z4 ?_
 revert H;refine cs (fun c16 H=>?_) fun c16 H=>?_
 refine Z7 ?_
 refine Tn (fN (t:=aN) (xs:=[(⟨y14.1.Op,y14.1.N,y14.1.AO⟩:AT)]) rfl (et rfl) (cI.cons rfl hh cB cI.nil) rfl rfl rfl) fun b5=>?_
 generalize (Value.slice (some ⟨b5,0,none⟩) _ _)=v8
 refine aF 0 rfl (fun hc_v8=>?_)
 revert H;refine bs fun z1 h15 H=>?_
 refine dA ?_
 refine cL ?_
 refine jE a2e rfl rfl rfl (has rfl) (has rfl) (et rfl) rfl h15 (fun v9=>?_)
 refine aF 0 rfl (fun hc_v9=>?_)
 refine Z1 ?_
 refine eM ?_
 refine dN (φs':=[fI y4.Op,fI x3,fEq v9,fSl tI y10]) a2e rfl rfl (has rfl) (has rfl) (aI hc_v9) (sz rfl) rfl rfl ?_
 revert H;refine B4 fun z2 h16 H=>?_
 refine Z3 ?_
 refine aH [0,4,5,1,6,7,8,9] (by decide) ?_
 exact Tm ((k1,z2,z1,v9)) ⟨H,ls⟩
 revert H;refine B10 fun r6 H e6=>?_
 cases e6;cases Hr6
 refine T_fr9 ?_
 refine T_fr9 ?_
 refine T_fr9 ?_
 refine T_fr9 ?_
 refine T_fr8 ?_
 refine eG (x:=(⟨(⟨a0.AE.AH,a0.AE.AM,a0.AE.AD,a0.AE.AF,a0.AE.AG⟩:AE),a0.Aa.set a1.toNat a2,a0.AZ.set a1.toNat y8,a0.AX.set a1.toNat true,(⟨a0.AK.AH,a0.AK.AD,a0.AK.AF,a0.AK.AG⟩:AI)⟩:Af)) ?_
 cases H
 refine aH [0] (by decide) ?_
 exact To
 refine Z6 ?_
 exact Tm ((x9,v7)) (ij H)
 clear H;intro i hi;obtain⟨x5,v5⟩:=i;subst o6;have H:=Hr6;clear Hr6;try dsimp only at H
 try dsimp only
 refine aF 3 rfl (fun hc_v5=>?_)
 refine aJ ?_
 revert H;refine bs fun y15 h17 H=>?_
 apply bW (ods:=[_,_,_,_,_,_,_,_]) 8 0 8 bV rfl rfl rfl
 refine ND ?_
 refine M8 ?_
 intros
 refine Z1 ?_
 refine eM ?_
 refine cF (φ:=fSl aN x5) (v:=v5) [] dC (fun _ h=>nomatch h) ?_
 refine fJ (φs':=[fI y4.Op,fI x3,fSl aN x5,fSl tI y10]) (i:=2) rfl rfl ?_
 refine pY 157 (ψ:=dV [fI y4.Op,fI x3,fEq v5,fSl tI y10]) rfl (pC (i:=2) (φs:=[fI y4.Op,fI x3,fEq v5,fSl tI y10]) (φs':=[fI y4.Op,fI x3,fSl aN x5,fSl tI y10]) rfl rfl) ?_
 refine cE ?_
 refine dA ?_
 refine aGW (z:=(⟨y4.Op,x3,x5,y10⟩:AV)) a2e rfl rfl rfl (has rfl) (has rfl) (sz rfl) (a0K.1 (gD h17)).1 ?_
 refine Z1 ?_
 refine aJ ?_
 revert H;refine I5 (fun c17 H=>?_) fun c17 H=>?_
 refine Z6 ?_
 refine dA ?_
 refine dA ?_
 refine dA ?_
 refine dA ?_
 refine eG (x:=(⟨(⟨a0.AE.AH,a0.AE.AM,a0.AE.AD,a0.AE.AF,a0.AE.AG⟩:AE),a0.Aa.set a1.toNat a2,a0.AZ.set a1.toNat y8,a0.AX.set a1.toNat true,(⟨a0.AK.AH,a0.AK.AD.set a1.toNat (⟨y4.Op,x3,x5,y10⟩:AV),a0.AK.AF,a0.AK.AG⟩:AI)⟩:Af)) ?_
 revert H;refine bs fun y16 h18 H=>?_
 refine Tc (ih_flat_view_def _ _ _ _ _ _ h18) ?_
 refine mG (fun v10 v11 v12 v13=>?_)
 refine aF 1 rfl (fun hc_v10=>?_)
 refine aF 2 rfl (fun hc_v11=>?_)
 refine aF 3 rfl (fun hc_v12=>?_)
 refine aF 4 rfl (fun hc_v13=>?_)
 refine Z3 ?_
 refine eG (x:=(⟨(⟨y16.1.AE.AH,y16.1.AE.AM,y16.1.AE.AD,y16.1.AE.AF,y16.1.AE.AG⟩:AE),y16.1.Aa,y16.1.AZ,y16.1.AX,(⟨y16.1.AK.AH,y16.1.AK.AD,y16.1.AK.AF,y16.1.AK.AG⟩:AI)⟩:Af)) ?_
 cases H
 refine aH [0] (by decide) ?_
 exact To
 refine Z9 ?_
 refine dA ?_
 refine dA ?_
 refine dA ?_
 refine dA ?_
 refine eG (x:=(⟨(⟨a0.AE.AH,a0.AE.AM,a0.AE.AD,a0.AE.AF,a0.AE.AG⟩:AE),a0.Aa.set a1.toNat a2,a0.AZ.set a1.toNat y8,a0.AX.set a1.toNat true,(⟨a0.AK.AH,a0.AK.AD.set a1.toNat (⟨y4.Op,x3,x5,y10⟩:AV),a0.AK.AF,a0.AK.AG⟩:AI)⟩:Af)) ?_
 revert H;refine bs fun y17 h19 H=>?_
 refine Tc (ih_flat_view_kids _ _ _ _ _ _ h19) ?_
 refine mG (fun v14 v15 v16 v17=>?_)
 refine aF 1 rfl (fun hc_v14=>?_)
 refine aF 2 rfl (fun hc_v15=>?_)
 refine aF 3 rfl (fun hc_v16=>?_)
 refine aF 4 rfl (fun hc_v17=>?_)
 refine Z3 ?_
 refine eG (x:=(⟨(⟨y17.1.AE.AH,y17.1.AE.AM,y17.1.AE.AD,y17.1.AE.AF,y17.1.AE.AG⟩:AE),y17.1.Aa,y17.1.AZ,y17.1.AX,(⟨y17.1.AK.AH,y17.1.AK.AD,y17.1.AK.AF,y17.1.AK.AG⟩:AI)⟩:Af)) ?_
 cases H
 refine aH [0] (by decide) ?_
 exact To
 exact fk
 kernel_rfl
 exact fk
 kernel_rfl
 exact fk
 kernel_rfl
 exact fk
 kernel_rfl
 intro p0 a0 a1 a2 a3 r H
 rw [qJ]at H
 refine bL Tryz.func108 rfl Tryz.ntmps108 rfl (fun β=>?_)
 refine mG (fun v1 v2 v3 v4=>?_)
 refine aF 1 rfl (fun hc_v1=>?_)
 refine aF 2 rfl (fun hc_v2=>?_)
 refine aF 3 rfl (fun hc_v3=>?_)
 refine aF 4 rfl (fun hc_v4=>?_)
 revert H;refine B10 fun y1 h1 H=>?_
 refine Z2 ?_
 refine Tn (bG rfl zD rfl) fun b1=>?_
 refine bZ (φs':=[fI y1.Op,fI y1.N,fSl aN y1.AW,fSl tI y1.AO,fSl tI y1.AM]) a2e rfl rfl (has rfl) (has rfl) (aC (aI a2e) (aC (aI a2e) (aC (aP) (aC (aP) (aC (aP) bD))))) (sz rfl) rfl rfl rfl ?_
 refine Z1 ?_
 refine aJ ?_
 refine aJ ?_
 revert H;refine is (fun c1 H=>?_) fun c1 H=>?_
 apply bW (ods:=[_,_,_,_,_,_,_,_,_,_,_,_,_,_]) 14 0 6 bV rfl rfl rfl
 refine ND ?_
 refine M8 ?_
 intros
 refine M6 ?_
 intros
 refine Z7 ?_
 refine cO ?_
 refine cO ?_
 refine cO ?_
 refine cO ?_
 refine cO ?_
 refine eG (x:=(⟨(⟨a0.AE.AH,a0.AE.AM,a0.AE.AD,a0.AE.AF,a0.AE.AG⟩:AE),a0.Aa,a0.AZ,a0.AX,(⟨a0.AK.AH,a0.AK.AD,a0.AK.AF,a0.AK.AG⟩:AI)⟩:Af)) ?_
 cases H
 refine aH [0] (by decide) ?_
 exact To
 exact fk
 kernel_rfl
 apply bW (ods:=[_,_,_,_,_,_,_,_,_,_,_,_,_,_]) 14 0 6 bV rfl rfl rfl
 refine ND ?_
 refine M8 ?_
 intros
 refine M6 ?_
 intros
 revert H;refine I2 (fun c2 H=>?_) fun c2 H=>?_
 refine Z5 ?_
 refine cO ?_
 refine cO ?_
 refine cO ?_
 refine cO ?_
 refine cO ?_
 refine eG (x:=(⟨(⟨a0.AE.AH,a0.AE.AM,a0.AE.AD,a0.AE.AF,a0.AE.AG⟩:AE),a0.Aa,a0.AZ,a0.AX,(⟨a0.AK.AH,a0.AK.AD,a0.AK.AF,a0.AK.AG⟩:AI)⟩:Af)) ?_
 cases H
 refine aH [0] (by decide) ?_
 exact To
 refine Z3 ?_
 refine aJ ?_
 revert H;refine bs fun y2 h2 H=>?_
 apply bW (ods:=[_,_,_,_,_,_,_,_,_,_,_]) 11 1 7 bV rfl rfl rfl
 refine ND ?_
 refine M8 ?_
 intros
 refine M1 ?_
 intros
 refine Mn 6 (fun b2=>ptr b2) (fun b2=>aA b2 77 [fEq (.slice none 0 0),fEq (.slice none 0 0),fEq (.slice none 0 0)]) rfl (bG rfl uD rfl) (fun b2 u1=>?_)
 refine rX (od:=od1 9 [6] true (fun b2 _=>fB) (fun b2 _=>[aA b2 77 [fSl bX y2.AQ,fSl bQ y2.AS,fSl bF y2.AP]])) (p:=6) (φs':=[fSl bX y2.AQ,fSl bQ y2.AS,fSl bF y2.AP]) rfl (fun _=>rfl) (fun _=>rfl) a2e rfl rfl rfl (has rfl) (has rfl) (aC (aP) (aC (aP) (aC (aP) bD))) (sz rfl) rfl rfl rfl (fun _=>?_)
 revert H;refine B10 fun z1 h3 H=>?_
 revert H;refine B1 fun y3 h4 H=>?_
 refine Tc (aAu _ _ _ _ h4) ?_
 revert H;refine B6 fun z2 h5 H=>?_
 revert H;refine B9 fun y4 h6 H=>?_
 refine Z1 ?_
 refine Yo 3 rfl (zQ rfl rfl hh (sc rfl) (gD h6) rfl) ?_
 revert H;refine B1 fun y5 h7 H=>?_
 refine Tc (uE _ _ _ h7) ?_
 revert H;refine B2 fun o1 H Hr1=>?_
 refine aS (ι:=List ByteArray × List Int × List Ah × List AN × Int × List (List Int) × List (List Int) × List Bool × List ByteArray × List AV × List AN × Int × Value × Value × Value × Value) (fun i=>o1=Sum.inl (i.1,i.2.1,i.2.2.1,i.2.2.2.1,i.2.2.2.2.1,i.2.2.2.2.2.1,i.2.2.2.2.2.2.1,i.2.2.2.2.2.2.2.1,i.2.2.2.2.2.2.2.2.1,i.2.2.2.2.2.2.2.2.2.1,i.2.2.2.2.2.2.2.2.2.2.1,i.2.2.2.2.2.2.2.2.2.2.2.1)) (fun i=>[(0,fEq (ptr p0)),(2,fSl tI a2),(3,fI z2),(9,fEq (ptr b1)),(10,fEq (ptr b2)),(11,fSl tI y3),(12,fSl tI y5)]) (fun i=>[aA b1 54 [fI y1.Op,fI y1.N,fSl aN y1.AW,fSl tI y1.AO,fSl tI y1.AM],aA p0 113 [fSl aL i.1,fSl tI i.2.1,fSl bH i.2.2.1,fSl aE i.2.2.2.1,fI i.2.2.2.2.1,fEq i.2.2.2.2.2.2.2.2.2.2.2.2.1,fEq i.2.2.2.2.2.2.2.2.2.2.2.2.2.1,fEq i.2.2.2.2.2.2.2.2.2.2.2.2.2.2.1,fSl aL i.2.2.2.2.2.2.2.2.1,fEq i.2.2.2.2.2.2.2.2.2.2.2.2.2.2.2,fSl aE i.2.2.2.2.2.2.2.2.2.2.1,fI i.2.2.2.2.2.2.2.2.2.2.2.1],aA b2 77 [fSl bX y2.AQ,fSl bQ y2.AS,fSl bF y2.AP],aD i.2.2.2.2.2.2.2.2.2.2.2.2.1 27 (tSl tI) i.2.2.2.2.2.1,aD i.2.2.2.2.2.2.2.2.2.2.2.2.2.1 27 (tSl tI) i.2.2.2.2.2.2.1,aD i.2.2.2.2.2.2.2.2.2.2.2.2.2.2.1 4 bE i.2.2.2.2.2.2.2.1,aD i.2.2.2.2.2.2.2.2.2.2.2.2.2.2.2 65 aY i.2.2.2.2.2.2.2.2.2.1]) ?_ ?_
 refine Z7 ?_
 refine aH [0,1,6,2,3,4,5] (by decide) ?_
 refine Tl (ι:=Nat × Int × List ByteArray × List Int × List Ah × List AN × Int × List (List Int) × List (List Int) × List Bool × List ByteArray × List AV × List AN × Int × Value × Value × Value × Value) (fun i=>mC AA (dQ AA) y2 z2 y5 i.1 i.2.1 i.2.2.1 i.2.2.2.1 i.2.2.2.2.1 i.2.2.2.2.2.1 i.2.2.2.2.2.2.1 i.2.2.2.2.2.2.2.1 i.2.2.2.2.2.2.2.2.1 i.2.2.2.2.2.2.2.2.2.1 i.2.2.2.2.2.2.2.2.2.2.1 i.2.2.2.2.2.2.2.2.2.2.2.1 i.2.2.2.2.2.2.2.2.2.2.2.2.1 i.2.2.2.2.2.2.2.2.2.2.2.2.2.1=_) (fun i=>i.1) (fun i=>[(0,fEq (ptr p0)),(2,fSl tI a2),(3,fI z2),(9,fEq (ptr b1)),(10,fEq (ptr b2)),(11,fSl tI y3),(12,fSl tI y5),(72,fSl bF y2.AP),(73,fI (y2.AP.length:Int)),(74,fI i.2.1)]) (fun i=>[aA b1 54 [fI y1.Op,fI y1.N,fSl aN y1.AW,fSl tI y1.AO,fSl tI y1.AM],aA p0 113 [fSl aL i.2.2.1,fSl tI i.2.2.2.1,fSl bH i.2.2.2.2.1,fSl aE i.2.2.2.2.2.1,fI i.2.2.2.2.2.2.1,fEq i.2.2.2.2.2.2.2.2.2.2.2.2.2.2.1,fEq i.2.2.2.2.2.2.2.2.2.2.2.2.2.2.2.1,fEq i.2.2.2.2.2.2.2.2.2.2.2.2.2.2.2.2.1,fSl aL i.2.2.2.2.2.2.2.2.2.2.1,fEq i.2.2.2.2.2.2.2.2.2.2.2.2.2.2.2.2.2,fSl aE i.2.2.2.2.2.2.2.2.2.2.2.2.1,fI i.2.2.2.2.2.2.2.2.2.2.2.2.2.1],aA b2 77 [fSl bX y2.AQ,fSl bQ y2.AS,fSl bF y2.AP],aD i.2.2.2.2.2.2.2.2.2.2.2.2.2.2.1 27 (tSl tI) i.2.2.2.2.2.2.2.1,aD i.2.2.2.2.2.2.2.2.2.2.2.2.2.2.2.1 27 (tSl tI) i.2.2.2.2.2.2.2.2.1,aD i.2.2.2.2.2.2.2.2.2.2.2.2.2.2.2.2.1 4 bE i.2.2.2.2.2.2.2.2.2.1,aD i.2.2.2.2.2.2.2.2.2.2.2.2.2.2.2.2.2 65 aY i.2.2.2.2.2.2.2.2.2.2.2.1]) (AA,0,a0.AE.AH,a0.AE.AM,a0.AE.AD,a0.AE.AF,a0.AE.AG,a0.Aa,a0.AZ,a0.AX,a0.AK.AH,a0.AK.AD,a0.AK.AF,a0.AK.AG,v1,v2,v3,v4) H ?_
 clear H;rintro⟨k1,x26,x27,x28,x29,x30,x31,x32,x33,x34,x35,x36,x37,x38,v13,v14,v15,v16⟩ H
 replace H:mC AA (dQ AA) y2 z2 y5 k1 x26 x27 x28 x29 x30 x31 x32 x33 x34 x35 x36 x37 x38=_:=H
 try dsimp only
 obtain _ | k1:=k1
 rw [mC]at H;cases H
 rw [mC]at H
 refine aF 3 rfl (fun hc_v13=>?_)
 refine aF 4 rfl (fun hc_v14=>?_)
 refine aF 5 rfl (fun hc_v15=>?_)
 refine aF 6 rfl (fun hc_v16=>?_)
 refine Z3 ?_
 refine aJ ?_
 revert H;refine is (fun c3 H=>?_) fun c3 H=>?_
 refine Z3 ?_
 refine aJ ?_
 revert H;refine B2 fun y6 h8 H=>?_
 refine Z2 ?_
 refine Tn (bG rfl sJ rfl) fun b3=>?_
 refine bZ (φs':=[fI y6.At,fSl tI y6.Ab,fI y6.AU]) a2e rfl rfl (has rfl) (has rfl) (aC (aI a2e) (aC (aP) (aC (aI a2e) bD))) (sz rfl) rfl rfl rfl ?_
 revert H;refine B4 fun y7 h9 H=>?_
 refine Tc (aFJ _ _ _ _ h9) ?_
 refine Z2 ?_
 refine aJ ?_
 revert H;refine is (fun c4 H=>?_) fun c4 H=>?_
 apply bW (ods:=[_,_,_,_,_,_,_,_,_,_,_,_,_,_]) 14 0 8 bV rfl rfl rfl
 refine ND ?_
 refine M8 ?_
 intros
 refine M6 ?_
 intros
 refine Z12 ?_
 revert H;refine B3 fun r1 H e1=>?_
 cases e1;cases Hr1
 refine jG ?_
 refine jG ?_
 refine jG ?_
 refine jG ?_
 refine dA ?_
 refine eG (x:=(⟨(⟨x27,x28,x29,x30,x31⟩:AE),x32,x33,x34,(⟨x35,x36,x37,x38⟩:AI)⟩:Af)) ?_
 cases H
 refine aH [0] (by decide) ?_
 exact To
 exact fk
 kernel_rfl
 revert H;refine bs fun y8 h10 H=>?_
 revert H;refine bs fun y9 h11 H=>?_
 revert H;refine bs fun z3 h12 H=>?_
 apply bW (ods:=[_,_,_,_,_,_,_,_,_,_,_,_,_,_]) 14 0 8 bV rfl rfl rfl
 refine ND ?_
 refine M8 ?_
 intros
 refine M1 ?_
 intros
 refine Nc (aAu _ _ _ _ h10) fun _=>?_
 refine Nc (uE _ _ _ h11) fun _=>?_
 refine M3 ?_
 intros
 refine Z1 ?_
 refine jG ?_
 refine jG ?_
 refine jG ?_
 refine jG ?_
 refine dA ?_
 refine eG (x:=(⟨(⟨x27,x28,x29,x30,x31⟩:AE),x32,x33,x34,(⟨x35,x36,x37,x38⟩:AI)⟩:Af)) ?_
 revert H;refine bs fun y10 h13 H=>?_
 refine Tc (ih_flat_view_node _ _ _ _ _ _ h13) ?_
 refine mG (fun v17 v18 v19 v20=>?_)
 refine aF 1 rfl (fun hc_v17=>?_)
 refine aF 2 rfl (fun hc_v18=>?_)
 refine aF 3 rfl (fun hc_v19=>?_)
 refine aF 4 rfl (fun hc_v20=>?_)
 refine Z3 ?_
 revert H;refine cs (fun c5 H=>?_) fun c5 H=>?_
 revert H;refine B5 fun z4 h14 H=>?_
 refine Z3 ?_
 refine aH [6,0,7,1,2,3,4] (by decide) ?_
 exact Tm ((k1,z4,y10.1.AE.AH,y10.1.AE.AM,y10.1.AE.AD,y10.1.AE.AF,y10.1.AE.AG,y10.1.Aa,y10.1.AZ,y10.1.AX,y10.1.AK.AH,y10.1.AK.AD,y10.1.AK.AF,y10.1.AK.AG,v17,v18,v19,v20)) ⟨H,ls⟩
 revert H;refine B10 fun r2 H e2=>?_
 cases e2;cases Hr1
 refine eG (x:=(⟨(⟨y10.1.AE.AH,y10.1.AE.AM,y10.1.AE.AD,y10.1.AE.AF,y10.1.AE.AG⟩:AE),y10.1.Aa,y10.1.AZ,y10.1.AX,(⟨y10.1.AK.AH,y10.1.AK.AD,y10.1.AK.AF,y10.1.AK.AG⟩:AI)⟩:Af)) ?_
 cases H
 refine aH [0] (by decide) ?_
 exact To
 exact fk
 kernel_rfl
 refine Z6 ?_
 exact Tm ((x27,x28,x29,x30,x31,x32,x33,x34,x35,x36,x37,x38,v13,v14,v15,v16)) (ij H)
 clear H;intro i hi;obtain⟨x1,x2,x3,x4,x5,x6,x7,x8,x9,x10,x11,x12,v5,v6,v7,v8⟩:=i;subst o1;have H:=Hr1;clear Hr1;try dsimp only at H
 try dsimp only
 refine aF 3 rfl (fun hc_v5=>?_)
 refine aF 4 rfl (fun hc_v6=>?_)
 refine aF 5 rfl (fun hc_v7=>?_)
 refine aF 6 rfl (fun hc_v8=>?_)
 revert H;refine bs fun o2 H Hr2=>?_
 refine aS (ι:=List ByteArray × List Int × List Ah × List AN × Int × List (List Int) × List (List Int) × List Bool × List ByteArray × List AV × List AN × Int × Value × Value × Value × Value) (fun i=>o2=Sum.inl (i.1,i.2.1,i.2.2.1,i.2.2.2.1,i.2.2.2.2.1,i.2.2.2.2.2.1,i.2.2.2.2.2.2.1,i.2.2.2.2.2.2.2.1,i.2.2.2.2.2.2.2.2.1,i.2.2.2.2.2.2.2.2.2.1,i.2.2.2.2.2.2.2.2.2.2.1,i.2.2.2.2.2.2.2.2.2.2.2.1)) (fun i=>[(0,fEq (ptr p0)),(2,fSl tI a2),(3,fI z2),(9,fEq (ptr b1)),(11,fSl tI y3)]) (fun i=>[aA b1 54 [fI y1.Op,fI y1.N,fSl aN y1.AW,fSl tI y1.AO,fSl tI y1.AM],aA p0 113 [fSl aL i.1,fSl tI i.2.1,fSl bH i.2.2.1,fSl aE i.2.2.2.1,fI i.2.2.2.2.1,fEq i.2.2.2.2.2.2.2.2.2.2.2.2.1,fEq i.2.2.2.2.2.2.2.2.2.2.2.2.2.1,fEq i.2.2.2.2.2.2.2.2.2.2.2.2.2.2.1,fSl aL i.2.2.2.2.2.2.2.2.1,fEq i.2.2.2.2.2.2.2.2.2.2.2.2.2.2.2,fSl aE i.2.2.2.2.2.2.2.2.2.2.1,fI i.2.2.2.2.2.2.2.2.2.2.2.1],aA b2 77 [fSl bX y2.AQ,fSl bQ y2.AS,fSl bF y2.AP],aD i.2.2.2.2.2.2.2.2.2.2.2.2.1 27 (tSl tI) i.2.2.2.2.2.1,aD i.2.2.2.2.2.2.2.2.2.2.2.2.2.1 27 (tSl tI) i.2.2.2.2.2.2.1,aD i.2.2.2.2.2.2.2.2.2.2.2.2.2.2.1 4 bE i.2.2.2.2.2.2.2.1,aD i.2.2.2.2.2.2.2.2.2.2.2.2.2.2.2 65 aY i.2.2.2.2.2.2.2.2.2.1]) ?_ ?_
 refine Z7 ?_
 refine Tl (ι:=Nat × Int × List ByteArray × List Int × List Ah × List AN × Int × List (List Int) × List (List Int) × List Bool × List ByteArray × List AV × List AN × Int × Value × Value × Value × Value) (fun i=>lY (dQ AA) y2 z2 y5 i.1 i.2.1 i.2.2.1 i.2.2.2.1 i.2.2.2.2.1 i.2.2.2.2.2.1 i.2.2.2.2.2.2.1 i.2.2.2.2.2.2.2.1 i.2.2.2.2.2.2.2.2.1 i.2.2.2.2.2.2.2.2.2.1 i.2.2.2.2.2.2.2.2.2.2.1 i.2.2.2.2.2.2.2.2.2.2.2.1 i.2.2.2.2.2.2.2.2.2.2.2.2.1 i.2.2.2.2.2.2.2.2.2.2.2.2.2.1=_) (fun i=>i.1) (fun i=>[(0,fEq (ptr p0)),(2,fSl tI a2),(3,fI z2),(9,fEq (ptr b1)),(11,fSl tI y3),(12,fSl tI y5),(100,fSl bQ y2.AS),(101,fI (y2.AS.length:Int)),(102,fI i.2.1)]) (fun i=>[aA b1 54 [fI y1.Op,fI y1.N,fSl aN y1.AW,fSl tI y1.AO,fSl tI y1.AM],aA p0 113 [fSl aL i.2.2.1,fSl tI i.2.2.2.1,fSl bH i.2.2.2.2.1,fSl aE i.2.2.2.2.2.1,fI i.2.2.2.2.2.2.1,fEq i.2.2.2.2.2.2.2.2.2.2.2.2.2.2.1,fEq i.2.2.2.2.2.2.2.2.2.2.2.2.2.2.2.1,fEq i.2.2.2.2.2.2.2.2.2.2.2.2.2.2.2.2.1,fSl aL i.2.2.2.2.2.2.2.2.2.2.1,fEq i.2.2.2.2.2.2.2.2.2.2.2.2.2.2.2.2.2,fSl aE i.2.2.2.2.2.2.2.2.2.2.2.2.1,fI i.2.2.2.2.2.2.2.2.2.2.2.2.2.1],aA b2 77 [fSl bX y2.AQ,fSl bQ y2.AS,fSl bF y2.AP],aD i.2.2.2.2.2.2.2.2.2.2.2.2.2.2.1 27 (tSl tI) i.2.2.2.2.2.2.2.1,aD i.2.2.2.2.2.2.2.2.2.2.2.2.2.2.2.1 27 (tSl tI) i.2.2.2.2.2.2.2.2.1,aD i.2.2.2.2.2.2.2.2.2.2.2.2.2.2.2.2.1 4 bE i.2.2.2.2.2.2.2.2.2.1,aD i.2.2.2.2.2.2.2.2.2.2.2.2.2.2.2.2.2 65 aY i.2.2.2.2.2.2.2.2.2.2.2.1]) (AA,0,x1,x2,x3,x4,x5,x6,x7,x8,x9,x10,x11,x12,v5,v6,v7,v8) H ?_
 clear H;rintro⟨k2,x64,x65,x66,x67,x68,x69,x70,x71,x72,x73,x74,x75,x76,v29,v30,v31,v32⟩ H
 replace H:lY (dQ AA) y2 z2 y5 k2 x64 x65 x66 x67 x68 x69 x70 x71 x72 x73 x74 x75 x76=_:=H
 try dsimp only
 obtain _ | k2:=k2
 rw [lY]at H;cases H
 rw [lY]at H
 refine aF 3 rfl (fun hc_v29=>?_)
 refine aF 4 rfl (fun hc_v30=>?_)
 refine aF 5 rfl (fun hc_v31=>?_)
 refine aF 6 rfl (fun hc_v32=>?_)
 refine Z3 ?_
 refine aJ ?_
 revert H;refine is (fun c6 H=>?_) fun c6 H=>?_
 refine Z3 ?_
 refine aJ ?_
 revert H;refine B2 fun y11 h15 H=>?_
 refine Z2 ?_
 refine Tn (bG rfl vL rfl) fun b4=>?_
 refine bZ (φs':=[fI y11.In,fI y11.AU]) a2e rfl rfl (has rfl) (has rfl) (aC (aI a2e) (aC (aI a2e) bD)) (sz rfl) rfl rfl rfl ?_
 refine Z7 ?_
 refine jG ?_
 refine jG ?_
 refine jG ?_
 refine jG ?_
 refine dA ?_
 refine eG (x:=(⟨(⟨x65,x66,x67,x68,x69⟩:AE),x70,x71,x72,(⟨x73,x74,x75,x76⟩:AI)⟩:Af)) ?_
 revert H;refine bs fun y12 h16 H=>?_
 refine Tc (ih_flat_view_node _ _ _ _ _ _ h16) ?_
 refine mG (fun v33 v34 v35 v36=>?_)
 refine aF 1 rfl (fun hc_v33=>?_)
 refine aF 2 rfl (fun hc_v34=>?_)
 refine aF 3 rfl (fun hc_v35=>?_)
 refine aF 4 rfl (fun hc_v36=>?_)
 refine Z2 ?_
 revert H;refine cs (fun c7 H=>?_) fun c7 H=>?_
 revert H;refine B5 fun z5 h17 H=>?_
 refine Z3 ?_
 refine aH [6,0,7,1,2,3,4] (by decide) ?_
 exact Tm ((k2,z5,y12.1.AE.AH,y12.1.AE.AM,y12.1.AE.AD,y12.1.AE.AF,y12.1.AE.AG,y12.1.Aa,y12.1.AZ,y12.1.AX,y12.1.AK.AH,y12.1.AK.AD,y12.1.AK.AF,y12.1.AK.AG,v33,v34,v35,v36)) ⟨H,ls⟩
 revert H;refine B10 fun r3 H e3=>?_
 cases e3;cases Hr2
 refine eG (x:=(⟨(⟨y12.1.AE.AH,y12.1.AE.AM,y12.1.AE.AD,y12.1.AE.AF,y12.1.AE.AG⟩:AE),y12.1.Aa,y12.1.AZ,y12.1.AX,(⟨y12.1.AK.AH,y12.1.AK.AD,y12.1.AK.AF,y12.1.AK.AG⟩:AI)⟩:Af)) ?_
 cases H
 refine aH [0] (by decide) ?_
 exact To
 refine Z6 ?_
 exact Tm ((x65,x66,x67,x68,x69,x70,x71,x72,x73,x74,x75,x76,v29,v30,v31,v32)) (ij H)
 clear H;intro i hi;obtain⟨x39,x40,x41,x42,x43,x44,x45,x46,x47,x48,x49,x50,v21,v22,v23,v24⟩:=i;subst o2;have H:=Hr2;clear Hr2;try dsimp only at H
 try dsimp only
 refine aF 3 rfl (fun hc_v21=>?_)
 refine aF 4 rfl (fun hc_v22=>?_)
 refine aF 5 rfl (fun hc_v23=>?_)
 refine aF 6 rfl (fun hc_v24=>?_)
 refine aJ ?_
 revert H;refine bs fun y13 h18 H=>?_
 apply bW (ods:=[_,_,_,_,_,_,_]) 7 0 7 bV rfl rfl rfl
 refine ND ?_
 refine M5 ?_
 intros
 refine Nc (uE _ _ _ h18) fun _=>?_
 refine M1 ?_
 intros
 refine Z1 ?_
 refine dA ?_
 refine dA ?_
 refine dA ?_
 refine dA ?_
 refine cO ?_
 refine eG (x:=(⟨(⟨x39,x40,x41,x42,x43⟩:AE),x44,x45,x46,(⟨x47,x48,x49,x50⟩:AI)⟩:Af)) ?_
 revert H;refine bs fun y14 h19 H=>?_
 refine Tc (ih_flat_view_kids _ _ _ _ _ _ h19) ?_
 refine mG (fun v37 v38 v39 v40=>?_)
 refine aF 1 rfl (fun hc_v37=>?_)
 refine aF 2 rfl (fun hc_v38=>?_)
 refine aF 3 rfl (fun hc_v39=>?_)
 refine aF 4 rfl (fun hc_v40=>?_)
 refine Z3 ?_
 refine eG (x:=(⟨(⟨y14.1.AE.AH,y14.1.AE.AM,y14.1.AE.AD,y14.1.AE.AF,y14.1.AE.AG⟩:AE),y14.1.Aa,y14.1.AZ,y14.1.AX,(⟨y14.1.AK.AH,y14.1.AK.AD,y14.1.AK.AF,y14.1.AK.AG⟩:AI)⟩:Af)) ?_
 cases H
 refine aH [0] (by decide) ?_
 exact To
 exact fk
 kernel_rfl
 exact fk
 kernel_rfl
 exact fk
 kernel_rfl
 intro p0 a0 a1 a2 a3 r H
 rw [kX]at H
 refine bL Tryz.func109 rfl Tryz.ntmps109 rfl (fun β=>?_)
 refine mG (fun v1 v2 v3 v4=>?_)
 refine aF 1 rfl (fun hc_v1=>?_)
 refine aF 2 rfl (fun hc_v2=>?_)
 refine aF 3 rfl (fun hc_v3=>?_)
 refine aF 4 rfl (fun hc_v4=>?_)
 revert H;refine B3 fun o1 H Hr1=>?_
 refine aS (ι:=List ByteArray × List Int × List Ah × List AN × Int × List (List Int) × List (List Int) × List Bool × List ByteArray × List AV × List AN × Int × Value × Value × Value × Value) (fun i=>o1=Sum.inl (i.1,i.2.1,i.2.2.1,i.2.2.2.1,i.2.2.2.2.1,i.2.2.2.2.2.1,i.2.2.2.2.2.2.1,i.2.2.2.2.2.2.2.1,i.2.2.2.2.2.2.2.2.1,i.2.2.2.2.2.2.2.2.2.1,i.2.2.2.2.2.2.2.2.2.2.1,i.2.2.2.2.2.2.2.2.2.2.2.1)) (fun i=>[(0,fEq (ptr p0))]) (fun i=>[aA p0 113 [fSl aL i.1,fSl tI i.2.1,fSl bH i.2.2.1,fSl aE i.2.2.2.1,fI i.2.2.2.2.1,fEq i.2.2.2.2.2.2.2.2.2.2.2.2.1,fEq i.2.2.2.2.2.2.2.2.2.2.2.2.2.1,fEq i.2.2.2.2.2.2.2.2.2.2.2.2.2.2.1,fSl aL i.2.2.2.2.2.2.2.2.1,fEq i.2.2.2.2.2.2.2.2.2.2.2.2.2.2.2,fSl aE i.2.2.2.2.2.2.2.2.2.2.1,fI i.2.2.2.2.2.2.2.2.2.2.2.1],aD i.2.2.2.2.2.2.2.2.2.2.2.2.1 27 (tSl tI) i.2.2.2.2.2.1,aD i.2.2.2.2.2.2.2.2.2.2.2.2.2.1 27 (tSl tI) i.2.2.2.2.2.2.1,aD i.2.2.2.2.2.2.2.2.2.2.2.2.2.2.1 4 bE i.2.2.2.2.2.2.2.1,aD i.2.2.2.2.2.2.2.2.2.2.2.2.2.2.2 65 aY i.2.2.2.2.2.2.2.2.2.1]) ?_ ?_
 refine Z6 ?_
 refine Tl (ι:=Nat × Int × List ByteArray × List Int × List Ah × List AN × Int × List (List Int) × List (List Int) × List Bool × List ByteArray × List AV × List AN × Int × Value × Value × Value × Value) (fun i=>mH (dQ AA) a1 a2 a3 i.1 i.2.1 i.2.2.1 i.2.2.2.1 i.2.2.2.2.1 i.2.2.2.2.2.1 i.2.2.2.2.2.2.1 i.2.2.2.2.2.2.2.1 i.2.2.2.2.2.2.2.2.1 i.2.2.2.2.2.2.2.2.2.1 i.2.2.2.2.2.2.2.2.2.2.1 i.2.2.2.2.2.2.2.2.2.2.2.1 i.2.2.2.2.2.2.2.2.2.2.2.2.1 i.2.2.2.2.2.2.2.2.2.2.2.2.2.1=_) (fun i=>i.1) (fun i=>[(0,fEq (ptr p0)),(2,fSl tI a2),(3,fI a3),(11,fSl tI a1),(12,fI (a1.length:Int)),(13,fI i.2.1)]) (fun i=>[aA p0 113 [fSl aL i.2.2.1,fSl tI i.2.2.2.1,fSl bH i.2.2.2.2.1,fSl aE i.2.2.2.2.2.1,fI i.2.2.2.2.2.2.1,fEq i.2.2.2.2.2.2.2.2.2.2.2.2.2.2.1,fEq i.2.2.2.2.2.2.2.2.2.2.2.2.2.2.2.1,fEq i.2.2.2.2.2.2.2.2.2.2.2.2.2.2.2.2.1,fSl aL i.2.2.2.2.2.2.2.2.2.2.1,fEq i.2.2.2.2.2.2.2.2.2.2.2.2.2.2.2.2.2,fSl aE i.2.2.2.2.2.2.2.2.2.2.2.2.1,fI i.2.2.2.2.2.2.2.2.2.2.2.2.2.1],aD i.2.2.2.2.2.2.2.2.2.2.2.2.2.2.1 27 (tSl tI) i.2.2.2.2.2.2.2.1,aD i.2.2.2.2.2.2.2.2.2.2.2.2.2.2.2.1 27 (tSl tI) i.2.2.2.2.2.2.2.2.1,aD i.2.2.2.2.2.2.2.2.2.2.2.2.2.2.2.2.1 4 bE i.2.2.2.2.2.2.2.2.2.1,aD i.2.2.2.2.2.2.2.2.2.2.2.2.2.2.2.2.2 65 aY i.2.2.2.2.2.2.2.2.2.2.2.1]) (AA,0,a0.AE.AH,a0.AE.AM,a0.AE.AD,a0.AE.AF,a0.AE.AG,a0.Aa,a0.AZ,a0.AX,a0.AK.AH,a0.AK.AD,a0.AK.AF,a0.AK.AG,v1,v2,v3,v4) H ?_
 clear H;rintro⟨k1,x26,x27,x28,x29,x30,x31,x32,x33,x34,x35,x36,x37,x38,v13,v14,v15,v16⟩ H
 replace H:mH (dQ AA) a1 a2 a3 k1 x26 x27 x28 x29 x30 x31 x32 x33 x34 x35 x36 x37 x38=_:=H
 try dsimp only
 obtain _ | k1:=k1
 rw [mH]at H;cases H
 rw [mH]at H
 refine aF 1 rfl (fun hc_v13=>?_)
 refine aF 2 rfl (fun hc_v14=>?_)
 refine aF 3 rfl (fun hc_v15=>?_)
 refine aF 4 rfl (fun hc_v16=>?_)
 refine Z3 ?_
 refine aJ ?_
 revert H;refine is (fun c1 H=>?_) fun c1 H=>?_
 refine Z3 ?_
 refine aJ ?_
 revert H;refine B2 fun y1 h1 H=>?_
 refine Z9 ?_
 refine eG (x:=(⟨(⟨x27,x28,x29,x30,x31⟩:AE),x32,x33,x34,(⟨x35,x36,x37,x38⟩:AI)⟩:Af)) ?_
 revert H;refine bs fun y2 h2 H=>?_
 refine Tc (ih_flat_view_node _ _ _ _ _ _ h2) ?_
 refine mG (fun v17 v18 v19 v20=>?_)
 refine aF 1 rfl (fun hc_v17=>?_)
 refine aF 2 rfl (fun hc_v18=>?_)
 refine aF 3 rfl (fun hc_v19=>?_)
 refine aF 4 rfl (fun hc_v20=>?_)
 refine Z2 ?_
 revert H;refine cs (fun c2 H=>?_) fun c2 H=>?_
 revert H;refine B5 fun z1 h3 H=>?_
 refine Z3 ?_
 exact Tm ((k1,z1,y2.1.AE.AH,y2.1.AE.AM,y2.1.AE.AD,y2.1.AE.AF,y2.1.AE.AG,y2.1.Aa,y2.1.AZ,y2.1.AX,y2.1.AK.AH,y2.1.AK.AD,y2.1.AK.AF,y2.1.AK.AG,v17,v18,v19,v20)) ⟨H,ls⟩
 revert H;refine B10 fun r1 H e1=>?_
 cases e1;cases Hr1
 refine eG (x:=(⟨(⟨y2.1.AE.AH,y2.1.AE.AM,y2.1.AE.AD,y2.1.AE.AF,y2.1.AE.AG⟩:AE),y2.1.Aa,y2.1.AZ,y2.1.AX,(⟨y2.1.AK.AH,y2.1.AK.AD,y2.1.AK.AF,y2.1.AK.AG⟩:AI)⟩:Af)) ?_
 cases H
 exact To
 refine Z6 ?_
 exact Tm ((x27,x28,x29,x30,x31,x32,x33,x34,x35,x36,x37,x38,v13,v14,v15,v16)) (ij H)
 clear H;intro i hi;obtain⟨x1,x2,x3,x4,x5,x6,x7,x8,x9,x10,x11,x12,v5,v6,v7,v8⟩:=i;subst o1;have H:=Hr1;clear Hr1;try dsimp only at H
 try dsimp only
 refine aF 1 rfl (fun hc_v5=>?_)
 refine aF 2 rfl (fun hc_v6=>?_)
 refine aF 3 rfl (fun hc_v7=>?_)
 refine aF 4 rfl (fun hc_v8=>?_)
 refine Z4 ?_
 refine eG (x:=(⟨(⟨x1,x2,x3,x4,x5⟩:AE),x6,x7,x8,(⟨x9,x10,x11,x12⟩:AI)⟩:Af)) ?_
 cases H
 exact To
theorem aKG (AA:Nat) (p0:Nat) (a0:Af) (a1:Int) (a2:List Int) (a3:Int) (r:Af × Bool) (H:dQ AA a0 a1 a2 a3=some r):FnS Tryz.prog 77 [fEq (.pointer (some ⟨p0,0,none⟩)),fI a1,fSl tI a2,fI a3] [lB p0 a0] (aR r.2) (fun _=>[lB p0 r.1]):=(aIB AA).1 p0 a0 a1 a2 a3 r H
open Go.SX Go.SW Go.Dt
def aBw (AA:Nat) (a0:AI) (a1:Ae->Option Bool):Option (Bool × Int):=
 (sL AA (⟨a0.AH,a0.AD,a0.AF,a0.AG⟩:AI)).bind fun y1=>
 match y1 with
 | Sum.inr pv1=>(unI 245 pv1).bind fun e1=>some (false,e1)
 | Sum.inl y1=>
 (a1 y1).bind fun y2=>
 some (y2,0)
theorem aIn (AA:Nat)  (a0:AI) (a1:Ae->Option Bool) (r:Bool × Int) (H:aBw AA a0 a1=some r):FnS Tryz.prog 110 [fSt cK a0,fFn Tryz.prog (fun (x:Ae)=>[aB bR x]) (fun (r:Bool)=>aR r) a1] [] (cV [aR r.1,fI r.2]) (fun _=>[]):=by
 unfold aBw at H
 refine aBD Tryz.func110 rfl Tryz.ntmps110 rfl (fun β=>?_)
 refine Z1 ?_
 refine Tn (cC rfl hh cB) fun b1=>?_
 refine Z1 ?_
 refine Tn (bG rfl aCa rfl) fun b2=>?_
 refine Z2 ?_
 refine aDf a2e rfl rfl (gA.cons (has rfl) gA.nil) ?_
 revert H;refine B4 fun y1 h1 H=>?_
 rcases y1 with y1 | pv1 <;> dsimp only at H
 refine Tc (uY _ _ _ h1).s ?_
 revert H;refine bs fun y2 h2 H=>?_
 refine xD y1 a2e rfl rfl rfl (has rfl) (aK.cons (has rfl) aK.nil) h2 ?_
 refine Z1 ?_
 refine dN (φs':=[fI 0]) a2e rfl rfl (has rfl) (has rfl) (aI a2e) (sz rfl) rfl rfl ?_
 refine Z2 ?_
 cases H
 refine aH [0] (by decide) ?_
 exact aBY (uI (u:= .returning) (by simp) rfl (bS rfl) rfl (sc rfl) (cb rfl) (aCn b2 0) rfl rfl)
 refine Tp (uY _ _ _ h1).pan ?_
 refine Z1 ?_
 have H0:=H;clear H;obtain⟨e1,h3,H⟩:=bind_some H0;clear H0;have hv_e1:=aCY h3;subst hv_e1
 cases H
 refine aH [0] (by decide) ?_
 exact aDX (uI (u:= .panicking [{ v:= .iface 245 (.agg #[.int .i64 e1]),recovered:=false }]) (by simp) rfl (bS rfl) rfl (sc rfl) (cb rfl) (aDY b2 0 e1) rfl rfl)
def aA6 (a0:Ae):Option (Bool):=
 some true
theorem aIO  (a0:Ae) (r:Bool) (H:aA6 a0=some r):FnS Tryz.prog 111 [aB bR a0] [] (aR r) (fun _=>[]):=by
 unfold aA6 at H
 refine bL Tryz.func111 rfl Tryz.ntmps111 rfl (fun β=>?_)
 refine Z7 ?_
 cases H
 exact To
def tU (AA:Nat) (a0:AI):Option (Int):=
 (aBw AA (⟨a0.AH,a0.AD,a0.AF,a0.AG⟩:AI) (fun x=>aA6 x)).bind fun y1=>
 some y1.2
theorem aKR (AA:Nat)  (a0:AI) (r:Int) (H:tU AA a0=some r):FnS Tryz.prog 78 [fSt cK a0] [] (fI r) (fun _=>[]):=by
 unfold tU at H
 refine bL Tryz.func78 rfl Tryz.ntmps78 rfl (fun β=>?_)
 refine Z1 ?_
 refine Tn (cC rfl hh cB) fun b1=>?_
 revert H;refine B4 fun y1 h1 H=>?_
 refine lT a2e rfl rfl rfl hh (aK.cons hh (aK.cons (fF rfl (aCl (cb rfl) (fun x r hx=>aIO x r hx))) aK.nil)) rfl (cb rfl) (aIn AA (⟨a0.AH,a0.AD,a0.AF,a0.AG⟩:AI) (fun x=>aA6 x) y1 h1) rfl ?_
 refine Z11 ?_
 cases H
 refine aH [] (by decide) ?_
 exact To
def lM (a0:AE):Nat->Int->Option ((Unit) ⊕ (Option Af))
| 0,_=>none
| k+1,x2=>
 if x2<(a0.AF.length:Int)then
  (idx a0.AF x2).bind fun y2=>
  if 30<(y2.AQ.length:Int)then
   (some none).bind fun r=>some (Sum.inr r)
  else
   if 30<(y2.AS.length:Int)then
    (some none).bind fun r=>some (Sum.inr r)
   else
    (chk (x2+1)).bind fun z1=>
    lM a0 k z1
 else
  some (Sum.inl ())
def rY (AA:Nat) (a0:AE):Option (Option Af):=
 if 60<(a0.AD.length:Int)then
  some none
 else
  if 12<(a0.AH.length:Int)then
   some none
  else
   if 12<(a0.AF.length:Int)then
    some none
   else
    (rI AA a0.AM (a0.AH.length:Int)).bind fun y1=>
    bif y1 then
     (lM a0 AA 0).bind fun o=>match o with
     | Sum.inr r=>some r
     | Sum.inl _=>
     (mk [] (a0.AD.length:Int)).bind fun y3=>
     (mk [] (a0.AD.length:Int)).bind fun y4=>
     (mk false (a0.AD.length:Int)).bind fun y5=>
     (tW a0.AH).bind fun y6=>
     (mk (⟨0,0,[],[]⟩:AV) (a0.AD.length:Int)).bind fun y7=>
     (tT AA a0.AF).bind fun y8=>
     (fC a0.AM).bind fun y9=>
     (dQ AA (⟨(⟨a0.AH,a0.AM,a0.AD,a0.AF,a0.AG⟩:AE),y3,y4,y5,(⟨y6,y7,y8,a0.AG⟩:AI)⟩:Af) a0.AG y9 (a0.AH.length:Int)).bind fun y10=>
     bif !y10.2 then
      some none
     else
      (tU AA (⟨y10.1.AK.AH,y10.1.AK.AD,y10.1.AK.AF,y10.1.AK.AG⟩:AI)).bind fun y11=>
      if y11≠0 then
       some none
      else
       some (some (⟨(⟨y10.1.AE.AH,y10.1.AE.AM,y10.1.AE.AD,y10.1.AE.AF,y10.1.AE.AG⟩:AE),y10.1.Aa,y10.1.AZ,y10.1.AX,(⟨y10.1.AK.AH,y10.1.AK.AD,y10.1.AK.AF,y10.1.AK.AG⟩:AI)⟩:Af))
    else
     some none
theorem aDS (AA:Nat)  (a0:AE) (r:Option Af) (H:rY AA a0=some r):FnS Tryz.prog 45 [fSt lF a0] [] (fOpt aAO r) (fun _=>[]):=by
 unfold rY at H
 refine bL Tryz.func45 rfl Tryz.ntmps45 rfl (fun β=>?_)
 refine Z1 ?_
 refine Tn (cC rfl hh cB) fun b1=>?_
 refine Z2 ?_
 refine aJ ?_
 revert H;refine I6 (fun c1 H=>?_) fun c1 H=>?_
 refine Z12 ?_
 refine Z12 ?_
 refine Z2 ?_
 cases H
 refine aH [] (by decide) ?_
 exact dR rfl (eL rfl qH) rfl
 revert H;refine I6 (fun c2 H=>?_) fun c2 H=>?_
 refine Z12 ?_
 refine Z8 ?_
 cases H
 refine aH [] (by decide) ?_
 exact dR rfl (eL rfl qH) rfl
 revert H;refine I6 (fun c3 H=>?_) fun c3 H=>?_
 refine Z12 ?_
 refine Z2 ?_
 cases H
 refine aH [] (by decide) ?_
 exact dR rfl (eL rfl qH) rfl
 revert H;refine B5 fun y1 h1 H=>?_
 refine Tc (aDN _ _ _ _ h1) ?_
 refine Z3 ?_
 revert H;refine cs (fun c4 H=>?_) fun c4 H=>?_
 revert H;refine B3 fun o1 H Hr1=>?_
 refine aS (ι:=Unit) (fun i=>o1=Sum.inl ()) (fun i=>[(1,fEq (ptr b1))]) (fun i=>[aA b1 30 [fSl aL a0.AH,fSl tI a0.AM,fSl bH a0.AD,fSl aE a0.AF,fI a0.AG]]) ?_ ?_
 refine Z7 ?_
 refine Tl (ι:=Nat × Int) (fun i=>lM a0 i.1 i.2=_) (fun i=>i.1) (fun i=>[(1,fEq (ptr b1)),(33,fSl aE a0.AF),(34,fI (a0.AF.length:Int)),(35,fI i.2)]) (fun i=>[aA b1 30 [fSl aL a0.AH,fSl tI a0.AM,fSl bH a0.AD,fSl aE a0.AF,fI a0.AG]]) (AA,0) H ?_
 clear H;rintro⟨k1,x2⟩ H
 replace H:lM a0 k1 x2=_:=H
 try dsimp only
 obtain _ | k1:=k1
 rw [lM]at H;cases H
 rw [lM]at H
 refine Z3 ?_
 refine aJ ?_
 revert H;refine is (fun c5 H=>?_) fun c5 H=>?_
 refine Z3 ?_
 refine aJ ?_
 revert H;refine B2 fun y2 h2 H=>?_
 refine Z2 ?_
 refine Tn (bG rfl uD rfl) fun b2=>?_
 refine bZ (φs':=[fSl bX y2.AQ,fSl bQ y2.AS,fSl bF y2.AP]) a2e rfl rfl (has rfl) (has rfl) (aC (aP) (aC (aP) (aC (aP) bD))) (sz rfl) rfl rfl rfl ?_
 revert H;refine I7 (fun c6 H=>?_) fun c6 H=>?_
 refine Z12 ?_
 revert H;refine B4 fun r1 H e1=>?_
 cases e1;cases Hr1
 cases H
 refine aH [] (by decide) ?_
 exact dR rfl (eL rfl qH) rfl
 revert H;refine I6 (fun c7 H=>?_) fun c7 H=>?_
 revert H;refine B10 fun r2 H e2=>?_
 cases e2;cases Hr1
 cases H
 refine aH [] (by decide) ?_
 exact dR rfl (eL rfl qH) rfl
 revert H;refine B5 fun z1 h3 H=>?_
 refine Z3 ?_
 refine aH [1] (by decide) ?_
 exact Tm ((k1,z1)) ⟨H,ls⟩
 refine Z6 ?_
 exact Tm (()) (ij H)
 clear H;intro i hi;subst o1;have H:=Hr1;clear Hr1;try dsimp only at H
 try dsimp only
 refine Z6 ?_
 refine aJ ?_
 revert H;refine bs fun y3 h4 H=>?_
 revert H;refine bs fun y4 h5 H=>?_
 revert H;refine bs fun y5 h6 H=>?_
 apply bW (ods:=[_,_,_,_,_,_,_,_,_,_]) 10 4 5 bV rfl rfl rfl
 refine ND ?_
 refine M2 ?_
 intros
 refine Mn 1 (fun b3=> .slice (some ⟨b3,0,none⟩) y3.length y3.length) (fun b3=>aD (.slice (some ⟨b3,0,none⟩) y3.length y3.length) 27 (tSl tI) y3) rfl (aAI (t:=(tSl tI)) (z:=[]) rfl (has rfl) (et rfl) rfl aAb (aO.cons cW aO.nil) h4) (fun b3 u1=>?_)
 refine M1 ?_
 intros
 refine Mn 2 (fun b4=> .slice (some ⟨b4,0,none⟩) y4.length y4.length) (fun b4=>aD (.slice (some ⟨b4,0,none⟩) y4.length y4.length) 27 (tSl tI) y4) rfl (aAI (t:=(tSl tI)) (z:=[]) rfl (has rfl) (et rfl) rfl aAb (aO.cons cW aO.nil) h5) (fun b4 u2=>?_)
 refine M1 ?_
 intros
 refine Mn 3 (fun b5=> .slice (some ⟨b5,0,none⟩) y5.length y5.length) (fun b5=>aD (.slice (some ⟨b5,0,none⟩) y5.length y5.length) 4 bE y5) rfl (aA1 (t:=bE) (z:=false) rfl (has rfl) (et rfl) rfl aDh rfl h6) (fun b5 u3=>?_)
 refine N_y (od:=od3 2 4 6 [] false (fun b3 _ b4 _ b5 _=>dV [fSl aL a0.AH,fSl tI a0.AM,fSl bH a0.AD,fSl aE a0.AF,fI a0.AG,fEq (.slice (some ⟨b3,0,none⟩) y3.length y3.length),fEq (.slice (some ⟨b4,0,none⟩) y4.length y4.length),fEq (.slice (some ⟨b5,0,none⟩) y5.length y5.length),fEq (.slice none 0 0),fEq (.slice none 0 0),fEq (.slice none 0 0),fI 0]) (fun b3 _ b4 _ b5 _=>[])) (φ:=dV [fSl aL a0.AH,fSl tI a0.AM,fSl bH a0.AD,fSl aE a0.AF,fI a0.AG,fEq (.slice (some ⟨b3,0,none⟩) y3.length y3.length),fEq (.slice (some ⟨b4,0,none⟩) y4.length y4.length),fEq (.slice (some ⟨b5,0,none⟩) y5.length y5.length),fEq (.slice none 0 0),fEq (.slice none 0 0),fEq (.slice none 0 0),fI 0]) rfl (fun _=>rfl) a2e rfl (fY (ψs:=[fSl aL a0.AH,fSl tI a0.AM,fSl bH a0.AD,fSl aE a0.AF,fI a0.AG,fEq (.slice (some ⟨b3,0,none⟩) y3.length y3.length),fEq (.slice (some ⟨b4,0,none⟩) y4.length y4.length),fEq (.slice (some ⟨b5,0,none⟩) y5.length y5.length),fEq (.slice none 0 0),fEq (.slice none 0 0),fEq (.slice none 0 0),fI 0]) rfl aJs rfl (bJ.cons (has rfl) cB (bJ.cons (has rfl) (cJ (aI a2e)) (bJ.cons (has rfl) (cJ (aI a2e)) (bJ.cons (has rfl) (cJ (aI a2e)) bJ.nil)))) rfl) (fun _=>?_)
 refine N_new (od:=odN3 2 4 6 [4] true (fun b3 _ b4 _ b5 _ b6 _=>fEq (ptr b6)) (fun b3 _ b4 _ b5 _ b6 _=>[aA b6 113 [fSl aL a0.AH,fSl tI a0.AM,fSl bH a0.AD,fSl aE a0.AF,fI a0.AG,fEq (.slice (some ⟨b3,0,none⟩) y3.length y3.length),fEq (.slice (some ⟨b4,0,none⟩) y4.length y4.length),fEq (.slice (some ⟨b5,0,none⟩) y5.length y5.length),fEq (.slice none 0 0),fEq (.slice none 0 0),fEq (.slice none 0 0),fI 0]])) (p:=4) (f:=fun b6=>ptr b6) (τ:=fun b6=>aA b6 113 [fSl aL a0.AH,fSl tI a0.AM,fSl bH a0.AD,fSl aE a0.AF,fI a0.AG,fEq (.slice (some ⟨b3,0,none⟩) y3.length y3.length),fEq (.slice (some ⟨b4,0,none⟩) y4.length y4.length),fEq (.slice (some ⟨b5,0,none⟩) y5.length y5.length),fEq (.slice none 0 0),fEq (.slice none 0 0),fEq (.slice none 0 0),fI 0]) rfl (fun _=>rfl) (fun _=>rfl) a2e rfl rfl (cC rfl (has rfl) cB) (fun b6 u4=>?_)
 refine D1 8 b6 _ (fun b6 _=>fEq (ptr b6)) rfl (aBy rfl hh) (fun _=>?_)
 refine Z1 ?_
 generalize (Value.slice (some ⟨b3,0,none⟩) _ _)=v1
 refine aF 1 rfl (fun hc_v1=>?_)
 generalize (Value.slice (some ⟨b4,0,none⟩) _ _)=v2
 refine aF 2 rfl (fun hc_v2=>?_)
 generalize (Value.slice (some ⟨b5,0,none⟩) _ _)=v3
 refine aF 3 rfl (fun hc_v3=>?_)
 refine Z1 ?_
 refine aJ ?_
 revert H;refine bs fun y6 h7 H=>?_
 revert H;refine bs fun y7 h8 H=>?_
 revert H;refine bs fun y8 h9 H=>?_
 apply bW (ods:=[_,_,_,_,_,_,_,_,_,_,_,_,_,_,_]) 15 1 6 bV rfl rfl rfl
 refine ND ?_
 refine M3 ?_
 intros
 refine Nc (aFX _ _ h7) fun _=>?_
 refine M1 ?_
 intros
 refine Mn 5 (fun b7=> .slice (some ⟨b7,0,none⟩) y7.length y7.length) (fun b7=>aD (.slice (some ⟨b7,0,none⟩) y7.length y7.length) 65 aY y7) rfl (aAI (t:=aY) (z:=(⟨0,0,[],[]⟩:AV)) rfl (has rfl) (et rfl) rfl sI (aO.cons Ent.rfl (aO.cons Ent.rfl (aO.cons cW (aO.cons cW aO.nil)))) h8) (fun b7 u5=>?_)
 refine M2 ?_
 intros
 refine Nc (aFW _ _ _ h9) fun _=>?_
 refine M2 ?_
 intros
 refine D1 5 b7 _ (fun b7 _=>dV [fSl aL y6,fEq (.slice (some ⟨b7,0,none⟩) y7.length y7.length),fSl aE y8,fI a0.AG]) rfl (fY (ψs:=[fSl aL y6,fEq (.slice (some ⟨b7,0,none⟩) y7.length y7.length),fSl aE y8,fI a0.AG]) rfl aDp rfl (bJ.cons (has rfl) (cJ (aP)) (bJ.cons (has rfl) (cJ (aI a2e)) (bJ.cons (has rfl) (cJ (aP)) (bJ.cons (has rfl) (cJ (aI a2e)) bJ.nil)))) rfl) (fun _=>?_)
 refine M2 ?_
 intros
 refine rX (od:=od1 5 [4] true (fun b7 _=>fB) (fun b7 _=>[aA b6 113 [fSl aL a0.AH,fSl tI a0.AM,fSl bH a0.AD,fSl aE a0.AF,fI a0.AG,fEq v1,fEq v2,fEq v3,fSl aL y6,fEq (.slice (some ⟨b7,0,none⟩) y7.length y7.length),fSl aE y8,fI a0.AG]])) (p:=4) (φs':=[fSl aL a0.AH,fSl tI a0.AM,fSl bH a0.AD,fSl aE a0.AF,fI a0.AG,fEq v1,fEq v2,fEq v3,fSl aL y6,fEq (.slice (some ⟨b7,0,none⟩) y7.length y7.length),fSl aE y8,fI a0.AG]) rfl (fun _=>rfl) (fun _=>rfl) a2e rfl rfl rfl (has rfl) (has rfl) (aC (aP) (aC (aI a2e) (aC (aP) (aC (aI a2e) bD)))) (sz rfl) rfl rfl rfl (fun _=>?_)
 refine Z1 ?_
 generalize (Value.slice (some ⟨b7,0,none⟩) _ _)=v4
 refine aF 5 rfl (fun hc_v4=>?_)
 refine Z1 ?_
 refine aJ ?_
 refine aJ ?_
 revert H;refine bs fun y9 h10 H=>?_
 apply bW (ods:=[_,_,_,_,_,_,_,_,_]) 9 0 6 bV rfl rfl rfl
 refine ND ?_
 refine M5 ?_
 intros
 refine vH (od:=odC [] true (fSl tI y9) []) (Φ:=fSl tI y9) rfl (fun _=>rfl) a2e rfl rfl (has rfl) (aK.cons (has rfl) aK.nil) rfl (cb rfl) (rP a0.AM y9 h10) (fun _=>?_)
 refine M3 ?_
 intros
 refine Z1 ?_
 refine cO ?_
 refine dD ?_
 refine dD ?_
 refine dD ?_
 refine cO ?_
 refine eG (x:=(⟨(⟨a0.AH,a0.AM,a0.AD,a0.AF,a0.AG⟩:AE),y3,y4,y5,(⟨y6,y7,y8,a0.AG⟩:AI)⟩:Af)) ?_
 revert H;refine bs fun y10 h11 H=>?_
 refine Tc (aKG _ _ _ _ _ _ _ h11) ?_
 refine mG (fun v5 v6 v7 v8=>?_)
 refine aF 1 rfl (fun hc_v5=>?_)
 refine aF 2 rfl (fun hc_v6=>?_)
 refine aF 3 rfl (fun hc_v7=>?_)
 refine aF 4 rfl (fun hc_v8=>?_)
 refine Z2 ?_
 revert H;refine cs (fun c8 H=>?_) fun c8 H=>?_
 refine Z12 ?_
 refine Z1 ?_
 cases H
 refine aH [] (by decide) ?_
 exact dR rfl (eL rfl qH) rfl
 refine Z4 ?_
 refine dD ?_
 refine cF (φ:=fSl aY y10.1.AK.AD) (v:=v8) [] dC (fun _ h=>nomatch h) ?_
 refine fJ (φs':=[fSl aL y10.1.AE.AH,fSl tI y10.1.AE.AM,fSl bH y10.1.AE.AD,fSl aE y10.1.AE.AF,fI y10.1.AE.AG,fEq v5,fEq v6,fEq v7,fSl aL y10.1.AK.AH,fSl aY y10.1.AK.AD,fSl aE y10.1.AK.AF,fI y10.1.AK.AG]) (i:=9) rfl rfl ?_
 refine pY 91 (ψ:=dV [fSl aL y10.1.AK.AH,fEq v8,fSl aE y10.1.AK.AF,fI y10.1.AK.AG]) rfl (pC (i:=1) (φs:=[fSl aL y10.1.AK.AH,fEq v8,fSl aE y10.1.AK.AF,fI y10.1.AK.AG]) (φs':=[fSl aL y10.1.AK.AH,fSl aY y10.1.AK.AD,fSl aE y10.1.AK.AF,fI y10.1.AK.AG]) rfl rfl) ?_
 refine cE ?_
 revert H;refine bs fun y11 h12 H=>?_
 refine Tc (aKR _ _ _ h12) ?_
 revert H;refine I3 (fun c9 H=>?_) fun c9 H=>?_
 refine Z5 ?_
 cases H
 refine aH [] (by decide) ?_
 exact dR rfl (eL rfl qH) rfl
 refine Z8 ?_
 refine cL ?_
 refine cF (φ:=fSl (tSl tI) y10.1.Aa) (v:=v5) [] dC (fun _ h=>nomatch h) ?_
 refine fJ (φs':=[fSl aL y10.1.AE.AH,fSl tI y10.1.AE.AM,fSl bH y10.1.AE.AD,fSl aE y10.1.AE.AF,fI y10.1.AE.AG,fSl (tSl tI) y10.1.Aa,fEq v6,fEq v7,fSl aL y10.1.AK.AH,fSl aY y10.1.AK.AD,fSl aE y10.1.AK.AF,fI y10.1.AK.AG]) (i:=5) rfl rfl ?_
 refine cE ?_
 refine cL ?_
 refine cF (φ:=fSl (tSl tI) y10.1.AZ) (v:=v6) [] dC (fun _ h=>nomatch h) ?_
 refine fJ (φs':=[fSl aL y10.1.AE.AH,fSl tI y10.1.AE.AM,fSl bH y10.1.AE.AD,fSl aE y10.1.AE.AF,fI y10.1.AE.AG,fSl (tSl tI) y10.1.Aa,fSl (tSl tI) y10.1.AZ,fEq v7,fSl aL y10.1.AK.AH,fSl aY y10.1.AK.AD,fSl aE y10.1.AK.AF,fI y10.1.AK.AG]) (i:=6) rfl rfl ?_
 refine cE ?_
 refine cL ?_
 refine cF (φ:=fSl bE y10.1.AX) (v:=v7) [] dC (fun _ h=>nomatch h) ?_
 refine fJ (φs':=[fSl aL y10.1.AE.AH,fSl tI y10.1.AE.AM,fSl bH y10.1.AE.AD,fSl aE y10.1.AE.AF,fI y10.1.AE.AG,fSl (tSl tI) y10.1.Aa,fSl (tSl tI) y10.1.AZ,fSl bE y10.1.AX,fSl aL y10.1.AK.AH,fSl aY y10.1.AK.AD,fSl aE y10.1.AK.AF,fI y10.1.AK.AG]) (i:=7) rfl rfl ?_
 refine cE ?_
 refine cF (φ:=aB aAO (⟨(⟨y10.1.AE.AH,y10.1.AE.AM,y10.1.AE.AD,y10.1.AE.AF,y10.1.AE.AG⟩:AE),y10.1.Aa,y10.1.AZ,y10.1.AX,(⟨y10.1.AK.AH,y10.1.AK.AD,y10.1.AK.AF,y10.1.AK.AG⟩:AI)⟩:Af)) (v:=ptr b6) [61,6,62,74,76,88,89,95,2] (gH aO.rfl) fz ?_
 refine cE ?_
 cases H
 refine aH [] (by decide) ?_
 exact dR rfl (eL rfl ent_optS) rfl
 exact fk
 kernel_rfl
 exact fk
 kernel_rfl
 exact fk
 kernel_rfl
 refine Z5 ?_
 cases H
 refine aH [] (by decide) ?_
 exact dR rfl (eL rfl qH) rfl
def rA (AA:Nat) (a0:AE):Option (AI × Int):=
 (rY AA (⟨a0.AH,a0.AM,a0.AD,a0.AF,a0.AG⟩:AE)).bind fun y1=>
 bif y1.isNone then
  some ((⟨[],[],[],0⟩:AI),2)
 else
  (y1).bind fun y2=>
  some ((⟨y2.AK.AH,y2.AK.AD,y2.AK.AF,y2.AK.AG⟩:AI),0)
theorem aH9 (AA:Nat)  (a0:AE) (r:AI × Int) (H:rA AA a0=some r):FnS Tryz.prog 11 [fSt lF a0] [] (cV [fSt cK r.1,fI r.2]) (fun _=>[]):=by
 unfold rA at H
 refine bL Tryz.func11 rfl Tryz.ntmps11 rfl (fun β=>?_)
 refine Z1 ?_
 refine Tn (cC rfl hh cB) fun b1=>?_
 refine Tn (bG rfl aHN rfl) fun b2=>?_
 revert H;refine B4 fun y1 h1 H=>?_
 refine Tc (aDS _ _ _ h1) ?_
 refine Z2 ?_
 refine aJ ?_
 refine Z2 ?_
 refine Yy (aDi rfl hh aDQ) ?_
 refine Z1 ?_
 revert H;refine cs (fun c1 H=>?_) fun c1 H=>?_
 refine Z2 ?_
 refine Yy (fY (ψs:=[fEq (.slice none 0 0),fEq (.slice none 0 0),fEq (.slice none 0 0),fI 0]) rfl aDp rfl bJ.nil rfl) ?_
 refine bZ (φs':=[fEq (.slice none 0 0),fEq (.slice none 0 0),fEq (.slice none 0 0),fI 0]) a2e rfl rfl (has rfl) (has rfl) (aC (aI a2e) (aC (aI a2e) (aC (aI a2e) (aC (aI a2e) bD)))) (sz rfl) rfl rfl rfl ?_
 refine Z3 ?_
 cases H
 refine aH [0] (by decide) ?_
 exact pG rfl (ag rfl) rfl (bS rfl) (bS rfl) (qS (aO.cons cW (aO.cons cW (aO.cons cW (aO.cons Ent.rfl aO.nil))))) rfl
 revert H;refine B5 fun y2 h2 H=>?_
 refine iN 6 rfl (jN h2) ?_
 refine iN 4 rfl (jN h2) ?_
 refine iN 7 rfl (jN h2) ?_
 refine iN 10 rfl (jN h2) ?_
 refine Z3 ?_
 refine bZ (φs':=[fSl aL y2.AK.AH,fSl aY y2.AK.AD,fSl aE y2.AK.AF,fI y2.AK.AG]) a2e rfl rfl (has rfl) (has rfl) (aC (aP) (aC (aP) (aC (aP) (aC (aI a2e) bD)))) (sz rfl) rfl rfl rfl ?_
 refine Z3 ?_
 cases H
 refine aH [0] (by decide) ?_
 exact pG rfl (ag rfl) rfl (bS rfl) (bS rfl) Ent.rfl rfl
def nN (AA:Nat) (a0:Int) (a1:List Int) (w0:aG Int (List Int)):Nat->Int->Int->Option (Int)
| 0,_,_=>none
| k+1,x3,x4=>
 if x3<(a1.length:Int)then
  ((idx a1 x3).bind fun y1=>
  (kK AA ((w0.get a0).getD []) y1).bind fun y2=>
  if y2<0 then
   (chk (x4+1)).bind fun z1=>
   some z1
  else
   some x4).bind fun x5=>
  (chk (x3+1)).bind fun z2=>
  nN AA a0 a1 w0 k z2 x5
 else
  some x4
def rM (AA:Nat) (a0:Int) (a1:List Int) (w0:aG Int (List Int)) (w1:Int):Option (Int):=
 nN AA a0 a1 w0 AA 0 w1
theorem aFD (AA:Nat) (q1:Nat) (a0:Int) (a1:List Int) (w0:aG Int (List Int)) (w1:Int) (r:Int) (H:rM AA a0 a1 w0 w1=some r):FnS Tryz.prog 47 [fI a0,fSl tI a1,aB (dY bO (fun y=>fSl tI y)) w0,fEq (.pointer (some ⟨q1,0,none⟩))] [aA q1 3 [fI w1]] (cV []) (fun _=>[aA q1 3 [fI r]]):=by
 unfold rM at H
 refine bL Tryz.func47 rfl Tryz.ntmps47 rfl (fun β=>?_)
 refine Z6 ?_
 refine Tl (ι:=Nat × Int × Int) (fun i=>nN AA a0 a1 w0 i.1 i.2.1 i.2.2=_) (fun i=>i.1) (fun i=>[(0,fI a0),(2,aB (dY bO (fun y=>fSl tI y)) w0),(3,fEq (ptr q1)),(8,fSl tI a1),(9,fI (a1.length:Int)),(10,fI i.2.1)]) (fun i=>[aA q1 3 [fI i.2.2]]) (AA,0,w1) H ?_
 clear H;rintro⟨k1,x3,x4⟩ H
 replace H:nN AA a0 a1 w0 k1 x3 x4=_:=H
 try dsimp only
 obtain _ | k1:=k1
 rw [nN]at H;cases H
 rw [nN]at H
 refine Z3 ?_
 refine aJ ?_
 revert H;refine is (fun c1 H=>?_) fun c1 H=>?_
 revert H;refine B3 fun o1 H Hr1=>?_
 refine aS (ι:=Int) (fun i=>o1=i) (fun i=>[(0,fI a0),(2,aB (dY bO (fun y=>fSl tI y)) w0),(3,fEq (ptr q1)),(8,fSl tI a1),(9,fI (a1.length:Int)),(10,fI x3)]) (fun i=>[aA q1 3 [fI i]]) ?_ ?_
 revert H;refine B2 fun y1 h1 H=>?_
 refine Z7 ?_
 refine Yy (uJ (zα:=[]) (k:=a0) rfl hh hh rfl qU cW) ?_
 revert H;refine B1 fun y2 h2 H=>?_
 refine Tc (zO _ _ _ _ h2) ?_
 revert H;refine I2 (fun c2 H=>?_) fun c2 H=>?_
 revert H;refine B3 fun z1 h3 H=>?_
 refine Z1 ?_
 refine dN (φs':=[fI z1]) a2e rfl rfl (has rfl) (has rfl) (aI a2e) (sz rfl) rfl rfl ?_
 refine Z3 ?_
 exact Tm (z1) (ij H)
 refine Z4 ?_
 exact Tm (x4) (ij H)
 clear H;intro x5 hi;subst o1;have H:=Hr1;clear Hr1;try dsimp only at H
 try dsimp only
 revert H;refine B1 fun z2 h4 H=>?_
 refine Z3 ?_
 exact Tm ((k1,z2,x5)) ⟨H,ls⟩
 refine Z5 ?_
 cases H
 exact jQ (.inr rfl) rfl rfl
def nC (AA:Nat) (a0:AE) (y2:Af) (y3:(aG Int (List Int)) × Int):Nat->Int->Int->Option (Int)
| 0,_,_=>none
| k+1,x4,x5=>
 if x4<(a0.AD.length:Int)then
  ((idx a0.AD x4).bind fun y5=>
  (pF y5.Op).bind fun y6=>
  bif y6 then
   (idx y2.AZ x4).bind fun y7=>
   (rM AA x4 y7 y3.1 x5).bind fun y8=>
   some y8
  else
   some x5).bind fun x6=>
  (chk (x4+1)).bind fun z1=>
  nC AA a0 y2 y3 k z1 x6
 else
  some x5
def yO (AA:Nat) (a0:AE):Option (Int × Int):=
 (rY AA (⟨a0.AH,a0.AM,a0.AD,a0.AF,a0.AG⟩:AE)).bind fun y1=>
 bif y1.isNone then
  some (0,2)
 else
  (y1).bind fun y2=>
  (tK AA y2.AK).bind fun y3=>
  if y3.2≠0 then
   some (0,y3.2)
  else
   (rM AA (-1) a0.AM y3.1 0).bind fun y4=>
   (nC AA a0 y2 y3 AA 0 y4).bind fun x1=>
   some (x1,0)
theorem aKv (AA:Nat)  (a0:AE) (r:Int × Int) (H:yO AA a0=some r):FnS Tryz.prog 13 [fSt lF a0] [] (cV [fI r.1,fI r.2]) (fun _=>[]):=by
 unfold yO at H
 refine bL Tryz.func13 rfl Tryz.ntmps13 rfl (fun β=>?_)
 refine Z1 ?_
 refine Tn (cC rfl hh cB) fun b1=>?_
 revert H;refine B5 fun y1 h1 H=>?_
 refine Tc (aDS _ _ _ h1) ?_
 refine Z2 ?_
 refine aJ ?_
 refine Z2 ?_
 refine Yy (aDi rfl hh aDQ) ?_
 refine Z1 ?_
 revert H;refine cs (fun c1 H=>?_) fun c1 H=>?_
 refine Z6 ?_
 cases H
 refine aH [] (by decide) ?_
 exact iH rfl (bS rfl) (bS rfl) rfl
 revert H;refine B5 fun y2 h2 H=>?_
 refine iN 12 rfl (jN h2) ?_
 refine iN 4 rfl (jN h2) ?_
 refine iN 13 rfl (jN h2) ?_
 refine iN 16 rfl (jN h2) ?_
 revert H;refine B3 fun y3 h3 H=>?_
 refine Tc (aHM _ _ _ h3) ?_
 refine Z3 ?_
 refine Tn (bG rfl aHY rfl) fun b2=>?_
 refine dN (φs':=[jO bO (fun y=>fSl tI y) y3.1]) a2e rfl rfl (has rfl) (has rfl) (aDr) (sz rfl) rfl rfl ?_
 refine Z2 ?_
 refine aJ ?_
 revert H;refine I4 (fun c2 H=>?_) fun c2 H=>?_
 refine Z7 ?_
 cases H
 refine aH [] (by decide) ?_
 exact iH rfl (bS rfl) (bS rfl) rfl
 refine Z4 ?_
 refine Tn (bG rfl aBo rfl) fun b3=>?_
 refine dN (φs':=[fI 0]) a2e rfl rfl (has rfl) (has rfl) (aI a2e) (sz rfl) rfl rfl ?_
 refine Z2 ?_
 refine cL ?_
 refine cF (φ:=aB (dY bO (fun y=>fSl tI y)) y3.1) (v:=ptr b2) [5] (gH aO.rfl) fz ?_
 refine cE ?_
 refine Yy (mR rfl (aK.cons hh (aK.cons hh aK.nil))) ?_
 revert H;refine B6 fun y4 h4 H=>?_
 refine gI a2e rfl rfl rfl (has rfl) (aK.cons (has rfl) (aK.cons (has rfl) aK.nil)) rfl (cb rfl) (aFD AA b3 (-1) a0.AM y3.1 0 y4 h4) rfl ?_
 revert H;refine B1 fun o1 H Hr1=>?_
 refine aS (ι:=Int) (fun i=>o1=i) (fun i=>[(7,fEq (ptr b3))]) (fun i=>[aA b3 3 [fI i],aA b1 30 [fSl aL a0.AH,fSl tI a0.AM,fSl bH a0.AD,fSl aE a0.AF,fI a0.AG]]) ?_ ?_
 refine Z7 ?_
 refine Tl (ι:=Nat × Int × Int) (fun i=>nC AA a0 y2 y3 i.1 i.2.1 i.2.2=_) (fun i=>i.1) (fun i=>[(4,aB aAO y2),(7,fEq (ptr b3)),(8,bU 47 [aB (dY bO (fun y=>fSl tI y)) y3.1,fEq (ptr b3)]),(32,fSl bH a0.AD),(33,fI (a0.AD.length:Int)),(34,fI i.2.1)]) (fun i=>[aA b3 3 [fI i.2.2],aA b1 30 [fSl aL a0.AH,fSl tI a0.AM,fSl bH a0.AD,fSl aE a0.AF,fI a0.AG]]) (AA,0,y4) H ?_
 clear H;rintro⟨k1,x4,x5⟩ H
 replace H:nC AA a0 y2 y3 k1 x4 x5=_:=H
 try dsimp only
 obtain _ | k1:=k1
 rw [nC]at H;cases H
 rw [nC]at H
 refine Z3 ?_
 refine aJ ?_
 revert H;refine is (fun c3 H=>?_) fun c3 H=>?_
 revert H;refine B3 fun o2 H Hr2=>?_
 refine aS (ι:=Int) (fun i=>o2=i) (fun i=>[(4,aB aAO y2),(7,fEq (ptr b3)),(8,bU 47 [aB (dY bO (fun y=>fSl tI y)) y3.1,fEq (ptr b3)]),(32,fSl bH a0.AD),(33,fI (a0.AD.length:Int)),(34,fI x4)]) (fun i=>[aA b3 3 [fI i],aA b1 30 [fSl aL a0.AH,fSl tI a0.AM,fSl bH a0.AD,fSl aE a0.AF,fI a0.AG]]) ?_ ?_
 revert H;refine B3 fun y5 h5 H=>?_
 refine Z2 ?_
 refine Tn (bG rfl zD rfl) fun b4=>?_
 refine Z1 ?_
 refine bZ (φs':=[fI y5.Op,fI y5.N,fSl aN y5.AW,fSl tI y5.AO,fSl tI y5.AM]) a2e rfl rfl (has rfl) (has rfl) (aC (aI a2e) (aC (aI a2e) (aC (aP) (aC (aP) (aC (aP) bD))))) (sz rfl) rfl rfl rfl ?_
 revert H;refine B4 fun y6 h6 H=>?_
 refine Tc (aDH _ _ h6) ?_
 refine Z1 ?_
 revert H;refine cs (fun c4 H=>?_) fun c4 H=>?_
 revert H;refine B9 fun y7 h7 H=>?_
 refine Z2 ?_
 refine cL ?_
 revert H;refine bs fun y8 h8 H=>?_
 refine gI a2e rfl rfl rfl (has rfl) (aK.cons (has rfl) (aK.cons (has rfl) aK.nil)) rfl (cb rfl) (aFD AA b3 x4 y7 y3.1 x5 y8 h8) rfl ?_
 refine Z3 ?_
 refine aH [0,2] (by decide) ?_
 exact Tm (y8) (ij H)
 refine Z4 ?_
 refine aH [1,2] (by decide) ?_
 exact Tm (x5) (ij H)
 clear H;intro x6 hi;subst o2;have H:=Hr2;clear Hr2;try dsimp only at H
 try dsimp only
 revert H;refine B1 fun z1 h9 H=>?_
 refine Z3 ?_
 exact Tm ((k1,z1,x6)) ⟨H,ls⟩
 refine Z6 ?_
 exact Tm (x5) (ij H)
 clear H;intro x1 hi;subst o1;have H:=Hr1;clear Hr1;try dsimp only at H
 try dsimp only
 refine Z6 ?_
 cases H
 refine aH [] (by decide) ?_
 exact iH rfl (bS rfl) (bS rfl) rfl
def oP (a0:List Int) (a1:List Int):Nat->Int->Option ((Unit) ⊕ (Bool))
| 0,_=>none
| k+1,x2=>
 if x2<(a0.length:Int)then
  (idx a0 x2).bind fun y1=>
  (idx a1 x2).bind fun y2=>
  if y1≠y2 then
   (some false).bind fun r=>some (Sum.inr r)
  else
   (chk (x2+1)).bind fun z1=>
   oP a0 a1 k z1
 else
  some (Sum.inl ())
def vM (AA:Nat) (a0:List Int) (a1:List Int):Option (Bool):=
 if (a0.length:Int)≠(a1.length:Int)then
  some false
 else
  (oP a0 a1 AA 0).bind fun o=>match o with
  | Sum.inr r=>some r
  | Sum.inl _=>
  some true
theorem aF0 (AA:Nat)  (a0:List Int) (a1:List Int) (r:Bool) (H:vM AA a0 a1=some r):FnS Tryz.prog 37 [fSl tI a0,fSl tI a1] [] (aR r) (fun _=>[]):=by
 unfold vM at H
 refine bL Tryz.func37 rfl Tryz.ntmps37 rfl (fun β=>?_)
 refine Z3 ?_
 refine aJ ?_
 revert H;refine I7 (fun c1 H=>?_) fun c1 H=>?_
 refine Z5 ?_
 cases H
 exact To
 revert H;refine B3 fun o1 H Hr1=>?_
 refine aS (ι:=Unit) (fun i=>o1=Sum.inl ()) (fun i=>[]) (fun i=>[]) ?_ ?_
 refine Z4 ?_
 refine Tl (ι:=Nat × Int) (fun i=>oP a0 a1 i.1 i.2=_) (fun i=>i.1) (fun i=>[(0,fSl tI a0),(1,fSl tI a1),(5,fI i.2)]) (fun i=>[]) (AA,0) H ?_
 clear H;rintro⟨k1,x2⟩ H
 replace H:oP a0 a1 k1 x2=_:=H
 try dsimp only
 obtain _ | k1:=k1
 rw [oP]at H;cases H
 rw [oP]at H
 refine aJ ?_
 revert H;refine I6 (fun c2 H=>?_) fun c2 H=>?_
 refine Z3 ?_
 refine aJ ?_
 refine Z1 ?_
 refine aJ ?_
 revert H;refine bs fun y1 h1 H=>?_
 revert H;refine bs fun y2 h2 H=>?_
 apply bW (ods:=[_,_,_,_,_,_,_,_,_]) 9 0 0 bV rfl rfl rfl
 refine ND ?_
 refine M8 ?_
 intros
 refine M1 ?_
 intros
 revert H;refine I2 (fun c3 H=>?_) fun c3 H=>?_
 revert H;refine B10 fun r1 H e1=>?_
 cases e1;cases Hr1
 cases H
 exact To
 revert H;refine B6 fun z1 h3 H=>?_
 refine Z3 ?_
 exact Tm ((k1,z1)) ⟨H,ls⟩
 exact fk
 kernel_rfl
 refine Z6 ?_
 exact Tm (()) (ij H)
 clear H;intro i hi;subst o1;have H:=Hr1;clear Hr1;try dsimp only at H
 try dsimp only
 refine Z4 ?_
 cases H
 exact To
open Go.SX Go.SW Go.Dt
def mS (a0:AN) (a1:AN):Nat->Int->Option ((Unit) ⊕ (Bool))
| 0,_=>none
| k+1,x2=>
 if x2<(a0.AQ.length:Int)then
  (idx a0.AQ x2).bind fun y1=>
  (idx a1.AQ x2).bind fun y2=>
  bif decide (y1.At=y2.At) && decide (y1.Ap=y2.Ap)then
   (chk (x2+1)).bind fun z1=>
   mS a0 a1 k z1
  else
   (some false).bind fun r=>some (Sum.inr r)
 else
  some (Sum.inl ())
def nD (a0:AN) (a1:AN):Nat->Int->Option ((Unit) ⊕ (Bool))
| 0,_=>none
| k+1,x4=>
 if x4<(a0.AS.length:Int)then
  (idx a0.AS x4).bind fun y3=>
  (idx a1.AS x4).bind fun y4=>
  bif decide (y3.In=y4.In) && decide (y3.AU=y4.AU)then
   (chk (x4+1)).bind fun z2=>
   nD a0 a1 k z2
  else
   (some false).bind fun r=>some (Sum.inr r)
 else
  some (Sum.inl ())
def nQ (AA:Nat) (a0:AN) (a1:AN):Nat->Int->Option ((Unit) ⊕ (Bool))
| 0,_=>none
| k+1,x6=>
 if x6<(a0.AP.length:Int)then
  (idx a0.AP x6).bind fun y5=>
  (idx a1.AP x6).bind fun y6=>
  if y5.At≠y6.At then
   (some false).bind fun r=>some (Sum.inr r)
  else
   (idx a0.AP x6).bind fun y7=>
   (idx a1.AP x6).bind fun y8=>
   if y7.AU≠y8.AU then
    (some false).bind fun r=>some (Sum.inr r)
   else
    (idx a0.AP x6).bind fun y9=>
    (idx a1.AP x6).bind fun y10=>
    (vM AA y9.Ab y10.Ab).bind fun y11=>
    bif y11 then
     (chk (x6+1)).bind fun z3=>
     nQ AA a0 a1 k z3
    else
     (some false).bind fun r=>some (Sum.inr r)
 else
  some (Sum.inl ())
def zF (AA:Nat) (a0:AN) (a1:AN):Option (Bool):=
 if (a0.AQ.length:Int)≠(a1.AQ.length:Int)then
  some false
 else
  if (a0.AS.length:Int)≠(a1.AS.length:Int)then
   some false
  else
   if (a0.AP.length:Int)≠(a1.AP.length:Int)then
    some false
   else
    (mS a0 a1 AA 0).bind fun o=>match o with
    | Sum.inr r=>some r
    | Sum.inl _=>
    (nD a0 a1 AA 0).bind fun o=>match o with
    | Sum.inr r=>some r
    | Sum.inl _=>
    (nQ AA a0 a1 AA 0).bind fun o=>match o with
    | Sum.inr r=>some r
    | Sum.inl _=>
    some true
theorem aLd (AA:Nat)  (a0:AN) (a1:AN) (r:Bool) (H:zF AA a0 a1=some r):FnS Tryz.prog 38 [fSt aE a0,fSt aE a1] [] (aR r) (fun _=>[]):=by
 unfold zF at H
 refine bL Tryz.func38 rfl Tryz.ntmps38 rfl (fun β=>?_)
 refine Z1 ?_
 refine T_new a2e rfl rfl (cC rfl (has rfl) cB) (fun b1=>?_)
 refine T_new a2e rfl rfl (cC rfl (has rfl) cB) (fun b2=>?_)
 refine Z2 ?_
 refine aJ ?_
 refine Z9 ?_
 revert H;refine is (fun c1 H=>?_) fun c1 H=>?_
 refine Yt c1 ?_
 refine Yt c1 ?_
 refine Yt c1 ?_
 refine Yt c1 ?_
 refine Yt c1 ?_
 refine Yt c1 ?_
 refine Yt c1 ?_
 refine Yy (yH rfl hh c1 hh) ?_
 refine Z12 ?_
 refine Z3 ?_
 cases H
 refine aH [] (by decide) ?_
 exact dR rfl (bS rfl) rfl
 refine Yg c1 (kJ 1 rfl hh (fa rfl) rfl) ?_
 refine Yh 1 rfl c1 (eQ rfl hh (sc rfl) rfl Ent.rfl) ?_
 refine Yg c1 (wK rfl hh (us rfl)) ?_
 refine Yg c1 (kJ 1 rfl hh (fa rfl) rfl) ?_
 refine Yh 0 rfl c1 (eQ rfl hh (sc rfl) rfl Ent.rfl) ?_
 refine Yg c1 (wK rfl hh (us rfl)) ?_
 refine Yg c1 (xO rfl hh hh) ?_
 refine Yy (uZ rfl hh c1 hh) ?_
 refine Z1 ?_
 revert H;refine is (fun c2 H=>?_) fun c2 H=>?_
 refine Yt c2 ?_
 refine Yt c2 ?_
 refine Yt c2 ?_
 refine Yt c2 ?_
 refine Yt c2 ?_
 refine Yt c2 ?_
 refine Yt c2 ?_
 refine Yy (yH rfl hh c2 hh) ?_
 refine Z6 ?_
 cases H
 refine aH [] (by decide) ?_
 exact dR rfl (bS rfl) rfl
 refine Yg c2 (kJ 2 rfl hh (fa rfl) rfl) ?_
 refine Yh 1 rfl c2 (eQ rfl hh (sc rfl) rfl Ent.rfl) ?_
 refine Yg c2 (wK rfl hh (us rfl)) ?_
 refine Yg c2 (kJ 2 rfl hh (fa rfl) rfl) ?_
 refine Yh 0 rfl c2 (eQ rfl hh (sc rfl) rfl Ent.rfl) ?_
 refine Yg c2 (wK rfl hh (us rfl)) ?_
 refine Yg c2 (xO rfl hh hh) ?_
 refine Yy (uZ rfl hh c2 hh) ?_
 refine Z1 ?_
 revert H;refine is (fun c3 H=>?_) fun c3 H=>?_
 refine pV hh c3 ?_
 refine Z4 ?_
 cases H
 refine aH [] (by decide) ?_
 exact dR rfl (bS rfl) rfl
 refine pI hh c3 ?_
 refine Z2 ?_
 revert H;refine bs fun o1 H Hr1=>?_
 refine aS (ι:=Unit) (fun i=>o1=Sum.inl ()) (fun i=>[(2,fEq (ptr b1)),(3,fEq (ptr b2))]) (fun i=>[aA b2 77 [fSl bX a1.AQ,fSl bQ a1.AS,fSl bF a1.AP],aA b1 77 [fSl bX a0.AQ,fSl bQ a0.AS,fSl bF a0.AP]]) ?_ ?_
 refine Z4 ?_
 refine aAK (ι:=Nat × Int) (fun i=>mS a0 a1 i.1 i.2=_) (fun i=>i.1) (fun i=>[(2,fEq (ptr b1)),(3,fEq (ptr b2)),(5,fI i.2)]) (fun i=>[aA b2 77 [fSl bX a1.AQ,fSl bQ a1.AS,fSl bF a1.AP],aA b1 77 [fSl bX a0.AQ,fSl bQ a0.AS,fSl bF a0.AP]]) (AA,0) H (Sc (Sc (Sc dW.nil))) rfl ?_
 clear H;rintro⟨k1,x2⟩ H
 replace H:mS a0 a1 k1 x2=_:=H
 try dsimp only
 obtain _ | k1:=k1
 rw [mS]at H;cases H
 rw [mS]at H
 refine aJ ?_
 refine Z7 ?_
 revert H;refine is (fun c4 H=>?_) fun c4 H=>?_
 refine pV hh c4 ?_
 refine Z2 ?_
 refine aJ ?_
 refine Z1 ?_
 refine aJ ?_
 revert H;refine bs fun y1 h1 H=>?_
 revert H;refine bs fun y2 h2 H=>?_
 apply bW (ods:=[_,_,_,_,_,_,_,_,_,_,_]) 11 0 2 bV rfl rfl rfl
 refine ND ?_
 refine M3 ?_
 intros
 refine My (gC rfl hh hh (el rfl) h1) fun _=>?_
 refine M4 ?_
 intros
 refine My (gC rfl hh hh (el rfl) h2) fun _=>?_
 refine M1 ?_
 intros
 refine My (aFt rfl hh hh rfl rfl aJG) fun _=>?_
 refine Z2 ?_
 revert H;refine cs (fun c5 H=>?_) fun c5 H=>?_
 refine pI hh (yK c5) ?_
 refine Z5 ?_
 revert H;refine bs fun z1 h3 H=>?_
 refine Yy (o_add rfl hh hh h3) ?_
 refine Z2 ?_
 exact sE ((k1,z1)) ⟨H,a1K _⟩ (Sc (Sc (Sc dW.nil))) rfl
 refine pV hh (aAg c5) ?_
 refine Z9 ?_
 revert H;refine bs fun r1 H e1=>?_
 have e1:=a1T e1;subst e1;have Hr1:=a1T Hr1;subst Hr1
 cases H
 refine aH [] (by decide) ?_
 exact dR rfl (bS rfl) rfl
 exact fk
 kernel_rfl
 refine pI hh c4 ?_
 refine Z5 ?_
 exact sE (()) (a1T H).symm (Sc (Sc dW.nil)) rfl
 clear H;intro i hi;subst o1;have H:=Hr1;clear Hr1;try dsimp only at H
 try dsimp only
 revert H;refine bs fun o2 H Hr2=>?_
 refine aS (ι:=Unit) (fun i=>o2=Sum.inl ()) (fun i=>[(2,fEq (ptr b1)),(3,fEq (ptr b2))]) (fun i=>[aA b2 77 [fSl bX a1.AQ,fSl bQ a1.AS,fSl bF a1.AP],aA b1 77 [fSl bX a0.AQ,fSl bQ a0.AS,fSl bF a0.AP]]) ?_ ?_
 refine Z4 ?_
 refine aAK (ι:=Nat × Int) (fun i=>nD a0 a1 i.1 i.2=_) (fun i=>i.1) (fun i=>[(2,fEq (ptr b1)),(3,fEq (ptr b2)),(6,fI i.2)]) (fun i=>[aA b2 77 [fSl bX a1.AQ,fSl bQ a1.AS,fSl bF a1.AP],aA b1 77 [fSl bX a0.AQ,fSl bQ a0.AS,fSl bF a0.AP]]) (AA,0) H (Sc (Sc (Sc dW.nil))) rfl ?_
 clear H;rintro⟨k2,x4⟩ H
 replace H:nD a0 a1 k2 x4=_:=H
 try dsimp only
 obtain _ | k2:=k2
 rw [nD]at H;cases H
 rw [nD]at H
 refine aJ ?_
 refine Z7 ?_
 revert H;refine is (fun c6 H=>?_) fun c6 H=>?_
 refine pV hh c6 ?_
 refine Z2 ?_
 refine aJ ?_
 refine Z1 ?_
 refine aJ ?_
 revert H;refine bs fun y3 h4 H=>?_
 revert H;refine bs fun y4 h5 H=>?_
 apply bW (ods:=[_,_,_,_,_,_,_,_,_,_,_]) 11 0 2 bV rfl rfl rfl
 refine ND ?_
 refine M3 ?_
 intros
 refine My (gC rfl hh hh (el rfl) h4) fun _=>?_
 refine M4 ?_
 intros
 refine My (gC rfl hh hh (el rfl) h5) fun _=>?_
 refine M1 ?_
 intros
 refine My (aFt rfl hh hh rfl rfl aH0) fun _=>?_
 refine Z2 ?_
 revert H;refine cs (fun c7 H=>?_) fun c7 H=>?_
 refine pI hh (yK c7) ?_
 refine Z5 ?_
 revert H;refine bs fun z2 h6 H=>?_
 refine Yy (o_add rfl hh hh h6) ?_
 refine Z2 ?_
 exact sE ((k2,z2)) ⟨H,a1K _⟩ (Sc (Sc (Sc dW.nil))) rfl
 refine pV hh (aAg c7) ?_
 refine Z9 ?_
 revert H;refine bs fun r2 H e2=>?_
 have e2:=a1T e2;subst e2;have Hr2:=a1T Hr2;subst Hr2
 cases H
 refine aH [] (by decide) ?_
 exact dR rfl (bS rfl) rfl
 exact fk
 kernel_rfl
 refine pI hh c6 ?_
 refine Z5 ?_
 exact sE (()) (a1T H).symm (Sc (Sc dW.nil)) rfl
 clear H;intro i hi;subst o2;have H:=Hr2;clear Hr2;try dsimp only at H
 try dsimp only
 revert H;refine bs fun o3 H Hr3=>?_
 refine aS (ι:=Unit) (fun i=>o3=Sum.inl ()) (fun i=>[]) (fun i=>[aA b2 77 [fSl bX a1.AQ,fSl bQ a1.AS,fSl bF a1.AP],aA b1 77 [fSl bX a0.AQ,fSl bQ a0.AS,fSl bF a0.AP]]) ?_ ?_
 refine Z4 ?_
 refine aAK (ι:=Nat × Int) (fun i=>nQ AA a0 a1 i.1 i.2=_) (fun i=>i.1) (fun i=>[(2,fEq (ptr b1)),(3,fEq (ptr b2)),(7,fI i.2)]) (fun i=>[aA b2 77 [fSl bX a1.AQ,fSl bQ a1.AS,fSl bF a1.AP],aA b1 77 [fSl bX a0.AQ,fSl bQ a0.AS,fSl bF a0.AP]]) (AA,0) H (Sc (Sc (Sc dW.nil))) rfl ?_
 clear H;rintro⟨k3,x6⟩ H
 replace H:nQ AA a0 a1 k3 x6=_:=H
 try dsimp only
 obtain _ | k3:=k3
 rw [nQ]at H;cases H
 rw [nQ]at H
 refine aJ ?_
 refine Z7 ?_
 revert H;refine is (fun c8 H=>?_) fun c8 H=>?_
 refine pV hh c8 ?_
 refine Z2 ?_
 refine aJ ?_
 refine Z1 ?_
 refine aJ ?_
 revert H;refine bs fun y5 h7 H=>?_
 revert H;refine bs fun y6 h8 H=>?_
 revert H;refine is (fun c9 H=>?_) fun c9 H=>?_
 apply bW (ods:=[_,_,_,_,_,_,_,_,_,_,_,_,_,_,_,_,_,_,_,_,_,_,_,_,_,_,_,_,_,_,_,_,_,_,_,_,_,_,_,_,_,_,_,_]) 44 0 2 bV rfl rfl rfl
 refine ND ?_
 refine M3 ?_
 intros
 refine My (gC rfl hh hh (el rfl) h7) fun _=>?_
 refine M5 ?_
 intros
 refine My (gC rfl hh hh (el rfl) h8) fun _=>?_
 refine M4 ?_
 intros
 refine Mt c9 fun _=>?_
 refine Mt c9 fun _=>?_
 refine Mt c9 fun _=>?_
 refine Mt c9 fun _=>?_
 refine Mt c9 fun _=>?_
 refine Mt c9 fun _=>?_
 refine Mt c9 fun _=>?_
 refine Mt c9 fun _=>?_
 refine Mt c9 fun _=>?_
 refine Mt c9 fun _=>?_
 refine Mt c9 fun _=>?_
 refine Mt c9 fun _=>?_
 refine Mt c9 fun _=>?_
 refine My (yH rfl hh c9 hh) fun _=>?_
 refine M8 ?_
 intros
 refine M8 ?_
 intros
 refine Z12 ?_
 revert H;refine bs fun r3 H e3=>?_
 have e3:=a1T e3;subst e3;have Hr3:=a1T Hr3;subst Hr3
 cases H
 refine aH [] (by decide) ?_
 exact dR rfl (bS rfl) rfl
 exact fk
 kernel_rfl
 revert H;refine bs fun y7 h9 H=>?_
 revert H;refine bs fun y8 h10 H=>?_
 revert H;refine is (fun c10 H=>?_) fun c10 H=>?_
 apply bW (ods:=[_,_,_,_,_,_,_,_,_,_,_,_,_,_,_,_,_,_,_,_,_,_,_,_,_,_,_,_,_,_,_,_,_,_,_,_,_,_,_,_,_,_,_,_]) 44 0 2 bV rfl rfl rfl
 refine ND ?_
 refine M3 ?_
 intros
 refine My (gC rfl hh hh (el rfl) h7) fun _=>?_
 refine M5 ?_
 intros
 refine My (gC rfl hh hh (el rfl) h8) fun _=>?_
 refine M4 ?_
 intros
 refine Mg c9 (kJ 2 rfl hh (fa rfl) rfl) fun _=>?_
 refine kD (od:=odC [1] false (fSl bF a0.AP) [eV]) (ps:=[1]) (φ:=fSl bF a0.AP) rfl (fun _=>rfl) ⟨_,_,rfl,rfl,c9⟩ rfl rfl (eQ rfl hh (sc rfl) rfl Ent.rfl) (fun _=>?_)
 refine Mg c9 (pA rfl hh) fun _=>?_
 refine Mg c9 (gC rfl hh hh (el rfl) h9) fun _=>?_
 refine Mg c9 (jT (t':=tI) (z:=y7.AU) rfl hh (fa rfl) rfl) fun _=>?_
 refine Mg c9 (rE rfl hh (sc rfl) rfl) fun _=>?_
 refine Mg c9 (kJ 2 rfl hh (fa rfl) rfl) fun _=>?_
 refine kD (od:=odC [0] false (fSl bF a1.AP) [eV]) (ps:=[0]) (φ:=fSl bF a1.AP) rfl (fun _=>rfl) ⟨_,_,rfl,rfl,c9⟩ rfl rfl (eQ rfl hh (sc rfl) rfl Ent.rfl) (fun _=>?_)
 refine Mg c9 (pA rfl hh) fun _=>?_
 refine Mg c9 (gC rfl hh hh (el rfl) h10) fun _=>?_
 refine Mg c9 (jT (t':=tI) (z:=y8.AU) rfl hh (fa rfl) rfl) fun _=>?_
 refine Mg c9 (rE rfl hh (sc rfl) rfl) fun _=>?_
 refine Mg c9 (xO rfl hh hh) fun _=>?_
 refine My (uZ rfl hh c9 hh) fun _=>?_
 refine M1 ?_
 intros
 refine Mt c10 fun _=>?_
 refine Mt c10 fun _=>?_
 refine Mt c10 fun _=>?_
 refine Mt c10 fun _=>?_
 refine Mt c10 fun _=>?_
 refine Mt c10 fun _=>?_
 refine Mt c10 fun _=>?_
 refine Mt c10 fun _=>?_
 refine Mt c10 fun _=>?_
 refine Mt c10 fun _=>?_
 refine Mt c10 fun _=>?_
 refine Mt c10 fun _=>?_
 refine Mt c10 fun _=>?_
 refine Mt c10 fun _=>?_
 refine My (yH rfl hh c10 hh) fun _=>?_
 refine Z12 ?_
 revert H;refine bs fun r4 H e4=>?_
 have e4:=a1T e4;subst e4;have Hr3:=a1T Hr3;subst Hr3
 cases H
 refine aH [] (by decide) ?_
 exact dR rfl (bS rfl) rfl
 exact fk
 kernel_rfl
 revert H;refine bs fun y9 h11 H=>?_
 revert H;refine bs fun y10 h12 H=>?_
 revert H;refine bs fun y11 h13 H=>?_
 apply bW (ods:=[_,_,_,_,_,_,_,_,_,_,_,_,_,_,_,_,_,_,_,_,_,_,_,_,_,_,_,_,_,_,_,_,_,_,_,_,_,_,_,_,_,_,_,_]) 44 0 2 bV rfl rfl rfl
 refine ND ?_
 refine M3 ?_
 intros
 refine My (gC rfl hh hh (el rfl) h7) fun _=>?_
 refine M5 ?_
 intros
 refine My (gC rfl hh hh (el rfl) h8) fun _=>?_
 refine M4 ?_
 intros
 refine Mg c9 (kJ 2 rfl hh (fa rfl) rfl) fun _=>?_
 refine kD (od:=odC [1] false (fSl bF a0.AP) [eV]) (ps:=[1]) (φ:=fSl bF a0.AP) rfl (fun _=>rfl) ⟨_,_,rfl,rfl,c9⟩ rfl rfl (eQ rfl hh (sc rfl) rfl Ent.rfl) (fun _=>?_)
 refine Mg c9 (pA rfl hh) fun _=>?_
 refine Mg c9 (gC rfl hh hh (el rfl) h9) fun _=>?_
 refine Mg c9 (jT (t':=tI) (z:=y7.AU) rfl hh (fa rfl) rfl) fun _=>?_
 refine Mg c9 (rE rfl hh (sc rfl) rfl) fun _=>?_
 refine Mg c9 (kJ 2 rfl hh (fa rfl) rfl) fun _=>?_
 refine kD (od:=odC [0] false (fSl bF a1.AP) [eV]) (ps:=[0]) (φ:=fSl bF a1.AP) rfl (fun _=>rfl) ⟨_,_,rfl,rfl,c9⟩ rfl rfl (eQ rfl hh (sc rfl) rfl Ent.rfl) (fun _=>?_)
 refine Mg c9 (pA rfl hh) fun _=>?_
 refine Mg c9 (gC rfl hh hh (el rfl) h10) fun _=>?_
 refine Mg c9 (jT (t':=tI) (z:=y8.AU) rfl hh (fa rfl) rfl) fun _=>?_
 refine Mg c9 (rE rfl hh (sc rfl) rfl) fun _=>?_
 refine Mg c9 (xO rfl hh hh) fun _=>?_
 refine My (uZ rfl hh c9 hh) fun _=>?_
 refine M1 ?_
 intros
 refine Mg c10 (kJ 2 rfl hh (fa rfl) rfl) fun _=>?_
 refine kD (od:=odC [1] false (fSl bF a0.AP) [eV]) (ps:=[1]) (φ:=fSl bF a0.AP) rfl (fun _=>rfl) ⟨_,_,rfl,rfl,c10⟩ rfl rfl (eQ rfl hh (sc rfl) rfl Ent.rfl) (fun _=>?_)
 refine Mg c10 (pA rfl hh) fun _=>?_
 refine Mg c10 (gC rfl hh hh (el rfl) h11) fun _=>?_
 refine Mg c10 (jT (t':=(tSl tI)) (z:=y9.Ab) rfl hh (fa rfl) rfl) fun _=>?_
 refine Mg c10 (rE rfl hh (sc rfl) rfl) fun _=>?_
 refine Mg c10 (kJ 2 rfl hh (fa rfl) rfl) fun _=>?_
 refine kD (od:=odC [0] false (fSl bF a1.AP) [eV]) (ps:=[0]) (φ:=fSl bF a1.AP) rfl (fun _=>rfl) ⟨_,_,rfl,rfl,c10⟩ rfl rfl (eQ rfl hh (sc rfl) rfl Ent.rfl) (fun _=>?_)
 refine Mg c10 (pA rfl hh) fun _=>?_
 refine Mg c10 (gC rfl hh hh (el rfl) h12) fun _=>?_
 refine Mg c10 (jT (t':=(tSl tI)) (z:=y10.Ab) rfl hh (fa rfl) rfl) fun _=>?_
 refine Mg c10 (rE rfl hh (sc rfl) rfl) fun _=>?_
 refine vH (od:=odC [] true (aR y11) []) (Φ:=aR y11) rfl (fun _=>rfl) ⟨_,_,rfl,rfl,c10⟩ rfl rfl (has rfl) (aK.cons (has rfl) (aK.cons (has rfl) aK.nil)) rfl (cb rfl) (aF0 AA y9.Ab y10.Ab y11 h13) (fun _=>?_)
 refine Mg c10 (o_not rfl hh) fun _=>?_
 refine My (uZ rfl hh c10 hh) fun _=>?_
 refine Z2 ?_
 revert H;refine cs (fun c11 H=>?_) fun c11 H=>?_
 refine pI hh (yK c11) ?_
 refine Z5 ?_
 revert H;refine bs fun z3 h14 H=>?_
 refine Yy (o_add rfl hh hh h14) ?_
 refine Z2 ?_
 exact sE ((k3,z3)) ⟨H,a1K _⟩ (Sc (Sc (Sc dW.nil))) rfl
 refine pV hh (aAg c11) ?_
 refine Z9 ?_
 revert H;refine bs fun r5 H e5=>?_
 have e5:=a1T e5;subst e5;have Hr3:=a1T Hr3;subst Hr3
 cases H
 refine aH [] (by decide) ?_
 exact dR rfl (bS rfl) rfl
 exact fk
 kernel_rfl
 refine pI hh c8 ?_
 refine Z5 ?_
 exact sE (()) (a1T H).symm dW.nil rfl
 clear H;intro i hi;subst o3;have H:=Hr3;clear Hr3;try dsimp only at H
 try dsimp only
 refine Z4 ?_
 cases H
 refine aH [] (by decide) ?_
 exact dR rfl (bS rfl) rfl
def nF (a0:List ByteArray) (a1:List ByteArray):Nat->Int->Option ((Unit) ⊕ (Bool))
| 0,_=>none
| k+1,x2=>
 if x2<(a0.length:Int)then
  (idx a0 x2).bind fun y1=>
  (idx a1 x2).bind fun y2=>
  if y1≠y2 then
   (some false).bind fun r=>some (Sum.inr r)
  else
   (chk (x2+1)).bind fun z1=>
   nF a0 a1 k z1
 else
  some (Sum.inl ())
def wE (AA:Nat) (a0:List ByteArray) (a1:List ByteArray):Option (Bool):=
 if (a0.length:Int)≠(a1.length:Int)then
  some false
 else
  (nF a0 a1 AA 0).bind fun o=>match o with
  | Sum.inr r=>some r
  | Sum.inl _=>
  some true
theorem aJ1 (AA:Nat)  (a0:List ByteArray) (a1:List ByteArray) (r:Bool) (H:wE AA a0 a1=some r):FnS Tryz.prog 49 [fSl aL a0,fSl aL a1] [] (aR r) (fun _=>[]):=by
 unfold wE at H
 refine bL Tryz.func49 rfl Tryz.ntmps49 rfl (fun β=>?_)
 refine Z3 ?_
 refine aJ ?_
 revert H;refine I7 (fun c1 H=>?_) fun c1 H=>?_
 refine Z5 ?_
 cases H
 exact To
 revert H;refine B3 fun o1 H Hr1=>?_
 refine aS (ι:=Unit) (fun i=>o1=Sum.inl ()) (fun i=>[]) (fun i=>[]) ?_ ?_
 refine Z4 ?_
 refine Tl (ι:=Nat × Int) (fun i=>nF a0 a1 i.1 i.2=_) (fun i=>i.1) (fun i=>[(0,fSl aL a0),(1,fSl aL a1),(5,fI i.2)]) (fun i=>[]) (AA,0) H ?_
 clear H;rintro⟨k1,x2⟩ H
 replace H:nF a0 a1 k1 x2=_:=H
 try dsimp only
 obtain _ | k1:=k1
 rw [nF]at H;cases H
 rw [nF]at H
 refine aJ ?_
 revert H;refine I6 (fun c2 H=>?_) fun c2 H=>?_
 refine Z3 ?_
 refine aJ ?_
 refine Z1 ?_
 refine aJ ?_
 revert H;refine bs fun y1 h1 H=>?_
 revert H;refine bs fun y2 h2 H=>?_
 apply bW (ods:=[_,_,_,_,_,_,_,_,_]) 9 0 0 bV rfl rfl rfl
 refine ND ?_
 refine M8 ?_
 intros
 refine My (o_neqS rfl hh hh) fun _=>?_
 revert H;refine I2 (fun c3 H=>?_) fun c3 H=>?_
 revert H;refine B10 fun r1 H e1=>?_
 cases e1;cases Hr1
 cases H
 exact To
 revert H;refine B6 fun z1 h3 H=>?_
 refine Z3 ?_
 exact Tm ((k1,z1)) ⟨H,ls⟩
 exact fk
 kernel_rfl
 refine Z6 ?_
 exact Tm (()) (ij H)
 clear H;intro i hi;subst o1;have H:=Hr1;clear Hr1;try dsimp only at H
 try dsimp only
 refine Z4 ?_
 cases H
 exact To
def sU (rec_r03_sameExp:AT->AT->Option (Bool)) (a0:AT) (a1:AT):Nat->Int->Option ((Unit) ⊕ (Bool))
| 0,_=>none
| k+1,x2=>
 if x2<(a0.AO.length:Int)then
  (idx a0.AO x2).bind fun y1=>
  (idx a1.AO x2).bind fun y2=>
  (rec_r03_sameExp y1 y2).bind fun y3=>
  bif y3 then
   (chk (x2+1)).bind fun z1=>
   sU rec_r03_sameExp a0 a1 k z1
  else
   (some false).bind fun r=>some (Sum.inr r)
 else
  some (Sum.inl ())
def sF:Nat->AT->AT->Option (Bool)
| 0,_,_=>none
| AA+1,a0,a1=>
 if a0.Op≠a1.Op then
  some false
 else
  if a0.N≠a1.N then
   some false
  else
   if (a0.AO.length:Int)≠(a1.AO.length:Int)then
    some false
   else
    (sU (sF AA) a0 a1 AA 0).bind fun o=>match o with
    | Sum.inr r=>some r
    | Sum.inl _=>
    some true
theorem aIf:∀ (AA:Nat),(∀  (a0:AT) (a1:AT) (r:Bool) (H:sF AA a0 a1=some r),FnS Tryz.prog 81 [fSt aN a0,fSt aN a1] [] (aR r) (fun _=>[])):=by
 intro AA
 induction AA with
 | zero=>exact fun a0 a1 r H=>(by rw [sF]at H;cases H)
 | succ AA ih=>
 have ih_r03_sameExp:=@ih
 refine ?_
 intro a0 a1 r H
 rw [sF]at H
 refine bL Tryz.func81 rfl Tryz.ntmps81 rfl (fun β=>?_)
 refine Z1 ?_
 refine Tn (cC rfl hh cB) fun b1=>?_
 refine Tn (cC rfl hh cB) fun b2=>?_
 refine Z2 ?_
 refine aJ ?_
 revert H;refine I7 (fun c1 H=>?_) fun c1 H=>?_
 refine Z12 ?_
 refine Z9 ?_
 cases H
 refine aH [] (by decide) ?_
 exact To
 revert H;refine I7 (fun c2 H=>?_) fun c2 H=>?_
 refine Z12 ?_
 refine Z2 ?_
 cases H
 refine aH [] (by decide) ?_
 exact To
 refine Z1 ?_
 refine Yh 1 rfl c2 (eQ rfl hh (sc rfl) rfl (jI iB)) ?_
 refine Z2 ?_
 refine Yh 0 rfl c2 (eQ rfl hh (sc rfl) rfl (jI iB)) ?_
 revert H;refine I4 (fun c3 H=>?_) fun c3 H=>?_
 refine Z5 ?_
 cases H
 refine aH [] (by decide) ?_
 exact To
 revert H;refine B3 fun o1 H Hr1=>?_
 refine aS (ι:=Unit) (fun i=>o1=Sum.inl ()) (fun i=>[]) (fun i=>[aA b2 71 [fI a1.Op,fI a1.N,dK a1.AO],aA b1 71 [fI a0.Op,fI a0.N,dK a0.AO]]) ?_ ?_
 refine Z4 ?_
 refine Tl (ι:=Nat × Int) (fun i=>sU (sF AA) a0 a1 i.1 i.2=_) (fun i=>i.1) (fun i=>[(2,fEq (ptr b1)),(3,fEq (ptr b2)),(5,fI i.2)]) (fun i=>[aA b2 71 [fI a1.Op,fI a1.N,dK a1.AO],aA b1 71 [fI a0.Op,fI a0.N,dK a0.AO]]) (AA,0) H ?_
 clear H;rintro⟨k1,x2⟩ H
 replace H:sU (sF AA) a0 a1 k1 x2=_:=H
 try dsimp only
 obtain _ | k1:=k1
 rw [sU]at H;cases H
 rw [sU]at H
 refine aJ ?_
 refine Z3 ?_
 refine Yo 1 rfl (eQ rfl hh (sc rfl) rfl (jI iB)) ?_
 revert H;refine I3 (fun c4 H=>?_) fun c4 H=>?_
 refine Z3 ?_
 refine aJ ?_
 refine Z1 ?_
 refine aJ ?_
 revert H;refine bs fun y1 h1 H=>?_
 revert H;refine bs fun y2 h2 H=>?_
 revert H;refine bs fun y3 h3 H=>?_
 apply bW (ods:=[_,_,_,_,_,_,_,_,_,_,_,_]) 12 0 2 bV rfl rfl rfl
 refine ND ?_
 refine M1 ?_
 intros
 refine Mo 1 rfl (eQ rfl hh (sc rfl) rfl (jI iB)) fun _=>?_
 refine M4 ?_
 intros
 refine Mo 0 rfl (eQ rfl hh (sc rfl) rfl (jI iB)) fun _=>?_
 refine M3 ?_
 intros
 refine Nc (ih_r03_sameExp _ _ _ h3) fun _=>?_
 refine M1 ?_
 intros
 refine Z2 ?_
 revert H;refine cs (fun c5 H=>?_) fun c5 H=>?_
 revert H;refine B6 fun z1 h4 H=>?_
 refine Z3 ?_
 exact Tm ((k1,z1)) ⟨H,ls⟩
 revert H;refine B10 fun r1 H e1=>?_
 cases e1;cases Hr1
 cases H
 refine aH [] (by decide) ?_
 exact To
 exact fk
 kernel_rfl
 refine Z6 ?_
 exact Tm (()) (ij H)
 clear H;intro i hi;subst o1;have H:=Hr1;clear Hr1;try dsimp only at H
 try dsimp only
 refine Z4 ?_
 cases H
 refine aH [] (by decide) ?_
 exact To
def tH (AA:Nat) (a0:AV) (a1:AV):Nat->Int->Option ((Unit) ⊕ (Bool))
| 0,_=>none
| k+1,x2=>
 if x2<(a0.AW.length:Int)then
  (idx a0.AW x2).bind fun y2=>
  (idx a1.AW x2).bind fun y3=>
  (sF AA y2 y3).bind fun y4=>
  bif y4 then
   (chk (x2+1)).bind fun z1=>
   tH AA a0 a1 k z1
  else
   (some false).bind fun r=>some (Sum.inr r)
 else
  some (Sum.inl ())
def aBS (AA:Nat) (a0:AV) (a1:AV):Option (Bool):=
 if a0.Op≠a1.Op then
  some false
 else
  if a0.N≠a1.N then
   some false
  else
   if (a0.AW.length:Int)≠(a1.AW.length:Int)then
    some false
   else
    (vM AA a0.AO a1.AO).bind fun y1=>
    bif y1 then
     (tH AA a0 a1 AA 0).bind fun o=>match o with
     | Sum.inr r=>some r
     | Sum.inl _=>
     some true
    else
     some false
theorem aIL (AA:Nat)  (a0:AV) (a1:AV) (r:Bool) (H:aBS AA a0 a1=some r):FnS Tryz.prog 50 [fSt aY a0,fSt aY a1] [] (aR r) (fun _=>[]):=by
 unfold aBS at H
 refine bL Tryz.func50 rfl Tryz.ntmps50 rfl (fun β=>?_)
 refine Z1 ?_
 refine Tn (cC rfl hh cB) fun b1=>?_
 refine Tn (cC rfl hh cB) fun b2=>?_
 refine Z2 ?_
 refine aJ ?_
 revert H;refine I7 (fun c1 H=>?_) fun c1 H=>?_
 refine Z12 ?_
 refine Z12 ?_
 refine Z5 ?_
 cases H
 refine aH [] (by decide) ?_
 exact To
 revert H;refine I7 (fun c2 H=>?_) fun c2 H=>?_
 refine Z12 ?_
 refine Z10 ?_
 cases H
 refine aH [] (by decide) ?_
 exact To
 revert H;refine I9 (fun c3 H=>?_) fun c3 H=>?_
 refine Z12 ?_
 refine Z1 ?_
 cases H
 refine aH [] (by decide) ?_
 exact To
 revert H;refine B4 fun y1 h1 H=>?_
 refine Tc (aF0 _ _ _ _ h1) ?_
 refine Z3 ?_
 revert H;refine cs (fun c4 H=>?_) fun c4 H=>?_
 revert H;refine B3 fun o1 H Hr1=>?_
 refine aS (ι:=Unit) (fun i=>o1=Sum.inl ()) (fun i=>[]) (fun i=>[aA b2 65 [fI a1.Op,fI a1.N,fSl aN a1.AW,fSl tI a1.AO],aA b1 65 [fI a0.Op,fI a0.N,fSl aN a0.AW,fSl tI a0.AO]]) ?_ ?_
 refine Z4 ?_
 refine Tl (ι:=Nat × Int) (fun i=>tH AA a0 a1 i.1 i.2=_) (fun i=>i.1) (fun i=>[(2,fEq (ptr b1)),(3,fEq (ptr b2)),(5,fI i.2)]) (fun i=>[aA b2 65 [fI a1.Op,fI a1.N,fSl aN a1.AW,fSl tI a1.AO],aA b1 65 [fI a0.Op,fI a0.N,fSl aN a0.AW,fSl tI a0.AO]]) (AA,0) H ?_
 clear H;rintro⟨k1,x2⟩ H
 replace H:tH AA a0 a1 k1 x2=_:=H
 try dsimp only
 obtain _ | k1:=k1
 rw [tH]at H;cases H
 rw [tH]at H
 refine aJ ?_
 revert H;refine I7 (fun c5 H=>?_) fun c5 H=>?_
 refine Z3 ?_
 refine aJ ?_
 refine Z1 ?_
 refine aJ ?_
 revert H;refine bs fun y2 h2 H=>?_
 revert H;refine bs fun y3 h3 H=>?_
 revert H;refine bs fun y4 h4 H=>?_
 apply bW (ods:=[_,_,_,_,_,_,_,_,_,_,_,_]) 12 0 2 bV rfl rfl rfl
 refine ND ?_
 refine M8 ?_
 intros
 refine M2 ?_
 intros
 refine Nc (aIf _ _ _ _ h4) fun _=>?_
 refine M1 ?_
 intros
 refine Z2 ?_
 revert H;refine cs (fun c6 H=>?_) fun c6 H=>?_
 revert H;refine B6 fun z1 h5 H=>?_
 refine Z3 ?_
 exact Tm ((k1,z1)) ⟨H,ls⟩
 revert H;refine B10 fun r1 H e1=>?_
 cases e1;cases Hr1
 cases H
 refine aH [] (by decide) ?_
 exact To
 exact fk
 kernel_rfl
 refine Z6 ?_
 exact Tm (()) (ij H)
 clear H;intro i hi;subst o1;have H:=Hr1;clear Hr1;try dsimp only at H
 try dsimp only
 refine Z4 ?_
 cases H
 refine aH [] (by decide) ?_
 exact To
 refine Z5 ?_
 cases H
 refine aH [] (by decide) ?_
 exact To
open Go.SX Go.SW Go.Dt
def oS (AA:Nat) (a0:AI) (a1:AI):Nat->Int->Option ((Unit) ⊕ (Bool))
| 0,_=>none
| k+1,x2=>
 if x2<(a0.AD.length:Int)then
  (idx a0.AD x2).bind fun y2=>
  (idx a1.AD x2).bind fun y3=>
  (aBS AA y2 y3).bind fun y4=>
  bif y4 then
   (chk (x2+1)).bind fun z1=>
   oS AA a0 a1 k z1
  else
   (some false).bind fun r=>some (Sum.inr r)
 else
  some (Sum.inl ())
def mQ (AA:Nat) (a0:AI) (a1:AI):Nat->Int->Option ((Unit) ⊕ (Bool))
| 0,_=>none
| k+1,x4=>
 if x4<(a0.AF.length:Int)then
  (idx a0.AF x4).bind fun y5=>
  (idx a1.AF x4).bind fun y6=>
  (zF AA y5 y6).bind fun y7=>
  bif y7 then
   (chk (x4+1)).bind fun z2=>
   mQ AA a0 a1 k z2
  else
   (some false).bind fun r=>some (Sum.inr r)
 else
  some (Sum.inl ())
def zY (AA:Nat) (a0:AI) (a1:AI):Option (Bool):=
 (wE AA a0.AH a1.AH).bind fun y1=>
 bif !y1 then
  some false
 else
  if (a0.AD.length:Int)≠(a1.AD.length:Int)then
   some false
  else
   if (a0.AF.length:Int)≠(a1.AF.length:Int)then
    some false
   else
    if a0.AG≠a1.AG then
     some false
    else
     (oS AA a0 a1 AA 0).bind fun o=>match o with
     | Sum.inr r=>some r
     | Sum.inl _=>
     (mQ AA a0 a1 AA 0).bind fun o=>match o with
     | Sum.inr r=>some r
     | Sum.inl _=>
     some true
theorem aIY (AA:Nat)  (a0:AI) (a1:AI) (r:Bool) (H:zY AA a0 a1=some r):FnS Tryz.prog 15 [fSt cK a0,fSt cK a1] [] (aR r) (fun _=>[]):=by
 unfold zY at H
 refine bL Tryz.func15 rfl Tryz.ntmps15 rfl (fun β=>?_)
 refine Z1 ?_
 refine Tn (cC rfl hh cB) fun b1=>?_
 refine Tn (cC rfl hh cB) fun b2=>?_
 refine Z2 ?_
 refine aJ ?_
 revert H;refine B5 fun y1 h1 H=>?_
 refine Tc (aJ1 _ _ _ _ h1) ?_
 refine Z2 ?_
 revert H;refine cs (fun c1 H=>?_) fun c1 H=>?_
 refine Z12 ?_
 refine Z12 ?_
 refine Z6 ?_
 cases H
 refine aH [] (by decide) ?_
 exact To
 revert H;refine I9 (fun c2 H=>?_) fun c2 H=>?_
 refine Z12 ?_
 refine Z9 ?_
 cases H
 refine aH [] (by decide) ?_
 exact To
 revert H;refine I9 (fun c3 H=>?_) fun c3 H=>?_
 refine Z12 ?_
 cases H
 refine aH [] (by decide) ?_
 exact To
 revert H;refine I7 (fun c4 H=>?_) fun c4 H=>?_
 refine Z5 ?_
 cases H
 refine aH [] (by decide) ?_
 exact To
 revert H;refine B3 fun o1 H Hr1=>?_
 refine aS (ι:=Unit) (fun i=>o1=Sum.inl ()) (fun i=>[(2,fEq (ptr b1)),(3,fEq (ptr b2))]) (fun i=>[aA b2 26 [fSl aL a1.AH,fSl aY a1.AD,fSl aE a1.AF,fI a1.AG],aA b1 26 [fSl aL a0.AH,fSl aY a0.AD,fSl aE a0.AF,fI a0.AG]]) ?_ ?_
 refine Z4 ?_
 refine Tl (ι:=Nat × Int) (fun i=>oS AA a0 a1 i.1 i.2=_) (fun i=>i.1) (fun i=>[(2,fEq (ptr b1)),(3,fEq (ptr b2)),(5,fI i.2)]) (fun i=>[aA b2 26 [fSl aL a1.AH,fSl aY a1.AD,fSl aE a1.AF,fI a1.AG],aA b1 26 [fSl aL a0.AH,fSl aY a0.AD,fSl aE a0.AF,fI a0.AG]]) (AA,0) H ?_
 clear H;rintro⟨k1,x2⟩ H
 replace H:oS AA a0 a1 k1 x2=_:=H
 try dsimp only
 obtain _ | k1:=k1
 rw [oS]at H;cases H
 rw [oS]at H
 refine aJ ?_
 revert H;refine I7 (fun c5 H=>?_) fun c5 H=>?_
 refine Z3 ?_
 refine aJ ?_
 refine Z1 ?_
 refine aJ ?_
 revert H;refine bs fun y2 h2 H=>?_
 revert H;refine bs fun y3 h3 H=>?_
 revert H;refine bs fun y4 h4 H=>?_
 apply bW (ods:=[_,_,_,_,_,_,_,_,_,_,_,_]) 12 0 2 bV rfl rfl rfl
 refine ND ?_
 refine M8 ?_
 intros
 refine M2 ?_
 intros
 refine Nc (aIL _ _ _ _ h4) fun _=>?_
 refine M1 ?_
 intros
 refine Z2 ?_
 revert H;refine cs (fun c6 H=>?_) fun c6 H=>?_
 revert H;refine B6 fun z1 h5 H=>?_
 refine Z3 ?_
 exact Tm ((k1,z1)) ⟨H,ls⟩
 revert H;refine B10 fun r1 H e1=>?_
 cases e1;cases Hr1
 cases H
 refine aH [] (by decide) ?_
 exact To
 exact fk
 kernel_rfl
 refine Z6 ?_
 exact Tm (()) (ij H)
 clear H;intro i hi;subst o1;have H:=Hr1;clear Hr1;try dsimp only at H
 try dsimp only
 revert H;refine bs fun o2 H Hr2=>?_
 refine aS (ι:=Unit) (fun i=>o2=Sum.inl ()) (fun i=>[]) (fun i=>[aA b2 26 [fSl aL a1.AH,fSl aY a1.AD,fSl aE a1.AF,fI a1.AG],aA b1 26 [fSl aL a0.AH,fSl aY a0.AD,fSl aE a0.AF,fI a0.AG]]) ?_ ?_
 refine Z4 ?_
 refine Tl (ι:=Nat × Int) (fun i=>mQ AA a0 a1 i.1 i.2=_) (fun i=>i.1) (fun i=>[(2,fEq (ptr b1)),(3,fEq (ptr b2)),(6,fI i.2)]) (fun i=>[aA b2 26 [fSl aL a1.AH,fSl aY a1.AD,fSl aE a1.AF,fI a1.AG],aA b1 26 [fSl aL a0.AH,fSl aY a0.AD,fSl aE a0.AF,fI a0.AG]]) (AA,0) H ?_
 clear H;rintro⟨k2,x4⟩ H
 replace H:mQ AA a0 a1 k2 x4=_:=H
 try dsimp only
 obtain _ | k2:=k2
 rw [mQ]at H;cases H
 rw [mQ]at H
 refine aJ ?_
 revert H;refine I7 (fun c7 H=>?_) fun c7 H=>?_
 refine Z3 ?_
 refine aJ ?_
 refine Z1 ?_
 refine aJ ?_
 revert H;refine bs fun y5 h6 H=>?_
 revert H;refine bs fun y6 h7 H=>?_
 revert H;refine bs fun y7 h8 H=>?_
 apply bW (ods:=[_,_,_,_,_,_,_,_,_,_,_,_]) 12 0 2 bV rfl rfl rfl
 refine ND ?_
 refine M8 ?_
 intros
 refine M2 ?_
 intros
 refine Nc (aLd _ _ _ _ h8) fun _=>?_
 refine M1 ?_
 intros
 refine Z2 ?_
 revert H;refine cs (fun c8 H=>?_) fun c8 H=>?_
 revert H;refine B6 fun z2 h9 H=>?_
 refine Z3 ?_
 exact Tm ((k2,z2)) ⟨H,ls⟩
 revert H;refine B10 fun r2 H e2=>?_
 cases e2;cases Hr2
 cases H
 refine aH [] (by decide) ?_
 exact To
 exact fk
 kernel_rfl
 refine Z6 ?_
 exact Tm (()) (ij H)
 clear H;intro i hi;subst o2;have H:=Hr2;clear Hr2;try dsimp only at H
 try dsimp only
 refine Z4 ?_
 cases H
 refine aH [] (by decide) ?_
 exact To
def nX (y2:Af):Nat->(List (List Int))->Int->Option (List (List Int))
| 0,_,_=>none
| k+1,x4,x5=>
 if x5<(y2.Aa.length:Int)then
  (idx y2.Aa x5).bind fun y3=>
  (fC y3).bind fun y4=>
  (cQ (x4++[y4])).bind fun z1=>
  (chk (x5+1)).bind fun z2=>
  nX y2 k z1 z2
 else
  some x4
def tE (AA:Nat) (a0:AE):Option ((List (List Int)) × Int):=
 (rY AA (⟨a0.AH,a0.AM,a0.AD,a0.AF,a0.AG⟩:AE)).bind fun y1=>
 bif y1.isNone then
  some ([],2)
 else
  ((y1).bind fun y2=>
  nX y2 AA [] 0).bind fun x1=>
  some (x1,0)
theorem aEI (AA:Nat)  (a0:AE) (r:(List (List Int)) × Int) (H:tE AA a0=some r):FnS Tryz.prog 18 [fSt lF a0] [] (cV [fSl (tSl tI) r.1,fI r.2]) (fun _=>[]):=by
 unfold tE at H
 refine bL Tryz.func18 rfl Tryz.ntmps18 rfl (fun β=>?_)
 refine Z1 ?_
 refine Tn (cC rfl hh cB) fun b1=>?_
 revert H;refine B5 fun y1 h1 H=>?_
 refine Tc (aDS _ _ _ h1) ?_
 refine Z2 ?_
 refine aJ ?_
 refine Z2 ?_
 refine Yy (aDi rfl hh aDQ) ?_
 refine Z1 ?_
 revert H;refine cs (fun c1 H=>?_) fun c1 H=>?_
 refine Z6 ?_
 cases H
 refine aH [] (by decide) ?_
 exact iH rfl (eL rfl cW) (bS rfl) rfl
 revert H;refine B6 fun o1 H Hr1=>?_
 refine aS (ι:=List (List Int) × Value) (fun i=>o1=i.1) (fun i=>[(5,fEq i.2)]) (fun i=>[aA b1 30 [fSl aL a0.AH,fSl tI a0.AM,fSl bH a0.AD,fSl aE a0.AF,fI a0.AG],aD i.2 27 (tSl tI) i.1]) ?_ ?_
 revert H;refine B2 fun y2 h2 H=>?_
 refine iN 9 rfl (jN h2) ?_
 refine iN 4 rfl (jN h2) ?_
 refine iN 10 rfl (jN h2) ?_
 refine iN 12 rfl (jN h2) ?_
 refine Z7 ?_
 refine gM (tSl tI) 27 ?_
 refine aH [1,0] (by decide) ?_
 refine Tl (ι:=Nat × List (List Int) × Int × Value) (fun i=>nX y2 i.1 i.2.1 i.2.2.1=_) (fun i=>i.1) (fun i=>[(5,fEq i.2.2.2),(15,fSl (tSl tI) y2.Aa),(16,fI (y2.Aa.length:Int)),(17,fI i.2.2.1)]) (fun i=>[aA b1 30 [fSl aL a0.AH,fSl tI a0.AM,fSl bH a0.AD,fSl aE a0.AF,fI a0.AG],aD i.2.2.2 27 (tSl tI) i.2.1]) (AA,[],0,(.slice none 0 0)) H ?_
 clear H;rintro⟨k1,x4,x5,v3⟩ H
 replace H:nX y2 k1 x4 x5=_:=H
 try dsimp only
 obtain _ | k1:=k1
 rw [nX]at H;cases H
 rw [nX]at H
 refine aF 1 rfl (fun hc_v3=>?_)
 refine Z3 ?_
 refine aJ ?_
 revert H;refine is (fun c2 H=>?_) fun c2 H=>?_
 refine Z3 ?_
 refine aJ ?_
 revert H;refine B2 fun y3 h3 H=>?_
 revert H;refine B7 fun y4 h4 H=>?_
 refine lT a2e rfl rfl rfl hh (aK.cons hh aK.nil) rfl (cb rfl) (rP y3 y4 h4) rfl ?_
 refine Tn (fN (t:=(tSl tI)) (xs:=[y4]) rfl (et rfl) (cI.cons rfl (has rfl) (cJ (aP)) cI.nil) rfl rfl rfl) fun b2=>?_
 generalize (Value.slice (some ⟨b2,0,none⟩) _ _)=v4
 refine aF 0 rfl (fun hc_v4=>?_)
 revert H;refine bs fun z1 h5 H=>?_
 refine dT ?_
 refine cL ?_
 refine jE a2e rfl rfl rfl (has rfl) (has rfl) (et rfl) rfl h5 (fun v5=>?_)
 refine aF 0 rfl (fun hc_v5=>?_)
 revert H;refine B5 fun z2 h6 H=>?_
 refine Z3 ?_
 refine aH [1,0] (by decide) ?_
 exact Tm ((k1,z1,z2,v5)) ⟨H,ls⟩
 refine Z6 ?_
 exact Tm ((x4,v3)) (ij H)
 clear H;intro i hi;obtain⟨x1,v1⟩:=i;subst o1;have H:=Hr1;clear Hr1;try dsimp only at H
 try dsimp only
 refine aF 1 rfl (fun hc_v1=>?_)
 refine Z6 ?_
 refine cL ?_
 refine cF (φ:=fSl (tSl tI) x1) (v:=v1) [5,27,2] dC fz ?_
 refine cE ?_
 cases H
 refine aH [] (by decide) ?_
 exact iH rfl (bS rfl) (bS rfl) rfl
def oW (a0:List Int) (a1:List Int) (x2:Int):Nat->Bool->Int->Option (Bool)
| 0,_,_=>none
| k+1,x6,x7=>
 if x7<(a1.length:Int)then
  (bif x6 then
   some true
  else
   (idx a0 x2).bind fun y1=>
   (idx a1 x7).bind fun y2=>
   some (decide (y1=y2))).bind fun x8=>
  (chk (x7+1)).bind fun z1=>
  oW a0 a1 x2 k x8 z1
 else
  some x6
def nO (AA:Nat) (a0:List Int) (a1:List Int):Nat->Int->Option ((Unit) ⊕ (Bool))
| 0,_=>none
| k+1,x2=>
 if x2<(a0.length:Int)then
  ((oW a0 a1 x2 AA false 0).bind fun x3=>
  bif x3 then
   some (Sum.inl ())
  else
   ((some false).bind fun r=>some (Sum.inr r)).bind fun r=>some (Sum.inr r)).bind fun o=>match o with
  | Sum.inr r=>some r
  | Sum.inl _=>
  (chk (x2+1)).bind fun z2=>
  nO AA a0 a1 k z2
 else
  some (Sum.inl ())
def sK (AA:Nat) (a0:List Int) (a1:List Int):Option (Bool):=
 (nO AA a0 a1 AA 0).bind fun o=>match o with
 | Sum.inr r=>some r
 | Sum.inl _=>
 some true
theorem aAL (AA:Nat)  (a0:List Int) (a1:List Int) (r:Bool) (H:sK AA a0 a1=some r):FnS Tryz.prog 19 [fSl tI a0,fSl tI a1] [] (aR r) (fun _=>[]):=by
 unfold sK at H
 refine bL Tryz.func19 rfl Tryz.ntmps19 rfl (fun β=>?_)
 revert H;refine B3 fun o1 H Hr1=>?_
 refine aS (ι:=Unit) (fun i=>o1=Sum.inl ()) (fun i=>[]) (fun i=>[]) ?_ ?_
 refine Z4 ?_
 refine Tl (ι:=Nat × Int) (fun i=>nO AA a0 a1 i.1 i.2=_) (fun i=>i.1) (fun i=>[(0,fSl tI a0),(1,fSl tI a1),(5,fI i.2)]) (fun i=>[]) (AA,0) H ?_
 clear H;rintro⟨k1,x2⟩ H
 replace H:nO AA a0 a1 k1 x2=_:=H
 try dsimp only
 obtain _ | k1:=k1
 rw [nO]at H;cases H
 rw [nO]at H
 refine aJ ?_
 revert H;refine I6 (fun c1 H=>?_) fun c1 H=>?_
 revert H;refine B3 fun o2 H Hr2=>?_
 refine aS (ι:=Unit) (fun i=>o2=Sum.inl ()) (fun i=>[(0,fSl tI a0),(1,fSl tI a1),(5,fI x2)]) (fun i=>[]) ?_ ?_
 revert H;refine B4 fun o3 H Hr3=>?_
 refine aS (ι:=Bool) (fun i=>o3=i) (fun i=>[(0,fSl tI a0),(1,fSl tI a1),(5,fI x2),(6,aR i)]) (fun i=>[]) ?_ ?_
 refine Z4 ?_
 refine Tl (ι:=Nat × Bool × Int) (fun i=>oW a0 a1 x2 i.1 i.2.1 i.2.2=_) (fun i=>i.1) (fun i=>[(0,fSl tI a0),(1,fSl tI a1),(5,fI x2),(6,aR i.2.1),(7,fI i.2.2)]) (fun i=>[]) (AA,false,0) H ?_
 clear H;rintro⟨k2,x6,x7⟩ H
 replace H:oW a0 a1 x2 k2 x6 x7=_:=H
 try dsimp only
 obtain _ | k2:=k2
 rw [oW]at H;cases H
 rw [oW]at H
 refine aJ ?_
 revert H;refine I6 (fun c2 H=>?_) fun c2 H=>?_
 revert H;refine B3 fun o4 H Hr4=>?_
 refine aS (ι:=Bool) (fun i=>o4=i) (fun i=>[(0,fSl tI a0),(1,fSl tI a1),(5,fI x2),(6,aR i),(7,fI x7)]) (fun i=>[]) ?_ ?_
 refine Z1 ?_
 revert H;refine cs (fun c3 H=>?_) fun c3 H=>?_
 apply bW (ods:=[_,_,_,_,_,_,_,_,_,_,_,_,_]) 13 0 0 bV rfl rfl rfl
 refine ND ?_
 refine M8 ?_
 intros
 refine M5 ?_
 intros
 refine Z4 ?_
 exact Tm (true) (ij H)
 exact fk
 kernel_rfl
 revert H;refine bs fun y1 h1 H=>?_
 revert H;refine bs fun y2 h2 H=>?_
 apply bW (ods:=[_,_,_,_,_,_,_,_,_,_,_,_,_]) 13 0 0 bV rfl rfl rfl
 refine ND ?_
 refine M8 ?_
 intros
 refine M5 ?_
 intros
 refine Z4 ?_
 exact Tm (decide (y1=y2)) (ij H)
 exact fk
 kernel_rfl
 clear H;intro x8 hi;subst o4;have H:=Hr4;clear Hr4;try dsimp only at H
 try dsimp only
 revert H;refine B2 fun z1 h3 H=>?_
 refine Z3 ?_
 exact Tm ((k2,x8,z1)) ⟨H,ls⟩
 refine Z6 ?_
 exact Tm (x6) (ij H)
 clear H;intro x3 hi;subst o3;have H:=Hr3;clear Hr3;try dsimp only at H
 try dsimp only
 refine Z4 ?_
 revert H;refine cs (fun c4 H=>?_) fun c4 H=>?_
 refine Z4 ?_
 exact Tm (()) (ij H)
 revert H;refine B7 fun r1 H e1=>?_
 cases e1;cases Hr2
 revert H;refine B3 fun r2 H e2=>?_
 cases e2;cases Hr1
 cases H
 exact To
 clear H;intro i hi;subst o2;have H:=Hr2;clear Hr2;try dsimp only at H
 try dsimp only
 revert H;refine B2 fun z2 h4 H=>?_
 refine Z3 ?_
 exact Tm ((k1,z2)) ⟨H,ls⟩
 refine Z6 ?_
 exact Tm (()) (ij H)
 clear H;intro i hi;subst o1;have H:=Hr1;clear Hr1;try dsimp only at H
 try dsimp only
 refine Z4 ?_
 cases H
 exact To
def nM (a0:List Int) (a1:List Int):Nat->(List Int)->Int->Option ((List Int) ⊕ ((List Int) × Bool))
| 0,_,_=>none
| k+1,x4,x5=>
 if x5<(a1.length:Int)then
  (idx a1 x5).bind fun y1=>
  if y1<0 then
   (some ([],false)).bind fun r=>some (Sum.inr r)
  else
   (idx a1 x5).bind fun y2=>
   if (a0.length:Int)<=y2 then
    (some ([],false)).bind fun r=>some (Sum.inr r)
   else
    (idx a1 x5).bind fun y3=>
    (idx a0 y3).bind fun y4=>
    (cQ (x4++[y4])).bind fun z1=>
    (chk (x5+1)).bind fun z2=>
    nM a0 a1 k z1 z2
 else
  some (Sum.inl x4)
def tM (AA:Nat) (a0:List Int) (a1:List Int):Option ((List Int) × Bool):=
 (nM a0 a1 AA [] 0).bind fun o=>match o with
 | Sum.inr r=>some r
 | Sum.inl x1=>
 some (x1,true)
theorem aHU (AA:Nat)  (a0:List Int) (a1:List Int) (r:(List Int) × Bool) (H:tM AA a0 a1=some r):FnS Tryz.prog 20 [fSl tI a0,fSl tI a1] [] (cV [fSl tI r.1,aR r.2]) (fun _=>[]):=by
 unfold tM at H
 refine bL Tryz.func20 rfl Tryz.ntmps20 rfl (fun β=>?_)
 revert H;refine B7 fun o1 H Hr1=>?_
 refine aS (ι:=List Int × Value) (fun i=>o1=Sum.inl i.1) (fun i=>[(6,fEq i.2)]) (fun i=>[aD i.2 3 tI i.1]) ?_ ?_
 refine Z4 ?_
 refine gM tI 3 ?_
 refine Tl (ι:=Nat × List Int × Int × Value) (fun i=>nM a0 a1 i.1 i.2.1 i.2.2.1=_) (fun i=>i.1) (fun i=>[(0,fSl tI a0),(1,fSl tI a1),(6,fEq i.2.2.2),(7,fI i.2.2.1)]) (fun i=>[aD i.2.2.2 3 tI i.2.1]) (AA,[],0,(.slice none 0 0)) H ?_
 clear H;rintro⟨k1,x4,x5,v3⟩ H
 replace H:nM a0 a1 k1 x4 x5=_:=H
 try dsimp only
 obtain _ | k1:=k1
 rw [nM]at H;cases H
 rw [nM]at H
 refine aF 0 rfl (fun hc_v3=>?_)
 refine aJ ?_
 revert H;refine I6 (fun c1 H=>?_) fun c1 H=>?_
 refine Z3 ?_
 refine aJ ?_
 refine Z1 ?_
 refine aJ ?_
 revert H;refine B3 fun y1 h1 H=>?_
 revert H;refine I4 (fun c2 H=>?_) fun c2 H=>?_
 refine Z12 ?_
 revert H;refine B8 fun r1 H e1=>?_
 cases e1;cases Hr1
 cases H
 refine aH [] (by decide) ?_
 exact iH rfl (eL rfl cW) (bS rfl) rfl
 revert H;refine B2 fun y2 h2 H=>?_
 revert H;refine I7 (fun c3 H=>?_) fun c3 H=>?_
 revert H;refine B11 fun r2 H e2=>?_
 cases e2;cases Hr1
 cases H
 refine aH [] (by decide) ?_
 exact iH rfl (eL rfl cW) (bS rfl) rfl
 revert H;refine B8 fun y3 h3 H=>?_
 revert H;refine B2 fun y4 h4 H=>?_
 refine Z2 ?_
 refine Tn (fN (t:=tI) (xs:=[y4]) rfl (et rfl) (cI.cons rfl (has rfl) (cJ (aI a2e)) cI.nil) rfl rfl rfl) fun b1=>?_
 generalize (Value.slice (some ⟨b1,0,none⟩) _ _)=v4
 refine aF 0 rfl (fun hc_v4=>?_)
 revert H;refine bs fun z1 h5 H=>?_
 refine jE a2e rfl rfl rfl (has rfl) (has rfl) (et rfl) rfl h5 (fun v5=>?_)
 refine aF 0 rfl (fun hc_v5=>?_)
 revert H;refine B6 fun z2 h6 H=>?_
 refine Z3 ?_
 exact Tm ((k1,z1,z2,v5)) ⟨H,ls⟩
 refine Z6 ?_
 exact Tm ((x4,v3)) (ij H)
 clear H;intro i hi;obtain⟨x1,v1⟩:=i;subst o1;have H:=Hr1;clear Hr1;try dsimp only at H
 try dsimp only
 refine aF 0 rfl (fun hc_v1=>?_)
 refine Z6 ?_
 refine cF (φ:=fSl tI x1) (v:=v1) [6,38,4] dC fz ?_
 refine cE ?_
 cases H
 exact iH rfl (bS rfl) (bS rfl) rfl
end Go.Proofs.YtgidgoahhepmlaaGreat
